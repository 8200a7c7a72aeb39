import Derived.Test.YtnfehbljinflbaaGreatDoorRRRRErSh
import Derived.Test.YtnfehbljinflbaaGreatDoorRRRRErL
import Derived.Test.YtnfehbljinflbaaGreatDoorRRRRAvE
import Derived.Lib.IndexAny
import Derived.Lib.IndexMore
import Derived.Lib.IndexBytes
import Derived.IntWalk
import Derived.KernelRfl
namespace Go.Av
set_option linter.unusedVariables false
theorem qIj {α:Type} [DecidableEq α] {a b:List α} {i:Nat} (ha:i < a.length) (hb:i < b.length) (d:α):decide (a.drop i=b.drop i)=bif a.getD i d != b.getD i d then false else decide (a.drop (i+1)=b.drop (i+1)):=by
 rw [qC (d:=d) ha,qC (d:=d) hb];generalize a.getD i d=x;generalize b.getD i d=y
 by_cases h:x=y
 ·subst h; simp
 ·simp [h]
theorem qqH (c:UInt8):decide (((UInt8.toNat c:Nat):Int) < (256:Nat))=true:=by
 have:=c.toNat_lt;rw [yo];omega
theorem qdm (ret:List Bool→Bool→OA) (k0:List Bool→OA) (cs:LU) (ha:ascii cs=true) (hl:cs.length≤1048576):∀ (d i n:Nat) (a:List Bool),i+d=cs.length→d < n →
 qfM ret k0 n cs a (i:Nat)=k0 (setOf (cs.drop i) a)
 | d,i,0,a,hi,hn=>by omega
 | 0,i,n+1,a,hi,hn=>by
  show qee ret k0 (qfM ret k0 n) n cs a _=_;unfold qee;rw [yx (by omega),yd,yA (by omega)];rfl
 | d+1,i,n+1,a,hi,hn=>by
  show qee ret k0 (qfM ret k0 n) n cs a _=_;unfold qee;have hlt:i < cs.length:=by omega
  have hc:decide ((128:UInt8)≤List.getD cs i 0)=false:=by
   unfold ascii at ha;rw [List.all_eq_true] at ha;have:=ha (cs.getD i 0) (by simp [List.getD,hlt]);rw [decide_eq_false_iff_not];simp only [ym] at this;exact UInt8.not_le.2 this
  rw [qfj,yo hlt,yc,qK,y5,yc,qV,hc,yd,qK,qqH,y5,yc,qf (by omega),
   qdm ret k0 cs ha hl d (i+1) n _ (by omega) (by omega),qC (d:=0) hlt]
  rfl
theorem qIk:∀ (chars0:LU),(qcn chars0=true)→∃ n,qCO n chars0=qjN (z147 chars0).1 (z147 chars0).2:=fun cs h=>⟨cs.length+1,by
 unfold qcn at h;rw [yf] at h;exact qdm qjN (qfN (cs.length+1)) cs h.1 (qd h.2) cs.length 0 (cs.length+1) _ (by omega) (by omega)⟩
theorem qIl:∀ (as0:List Bool) (c1:UInt8),∃ n,qCQ n as0 c1=qCP (z153 as0 c1):=fun as c=>⟨0,by
 unfold qCQ;rw [qK,qqH];rfl⟩
theorem qNk:∀ (c0:UInt8),∃ n,qMm n c0=qn (z97 c0):=fun c=>⟨0,by
 unfold qMm qfH qan z97 qws orI;cases decide (c < (32:UInt8)) <;> cases (c==(127:UInt8)) <;> cases (c==(32:UInt8)) <;> cases (c==(9:UInt8)) <;> cases decide ((48:UInt8)≤c) <;> cases decide (c≤(57:UInt8)) <;> cases decide ((65:UInt8)≤c) <;> cases decide (c≤(90:UInt8)) <;> cases decide ((97:UInt8)≤c) <;> cases decide (c≤(122:UInt8)) <;> rfl⟩
theorem qIm:∀ (s0:LU) (c1:UInt8),∃ n,qKc n s0 c1=qCG (z145 s0 c1):=fun _ _=>⟨0,rfl⟩
theorem qIn:∀ (s0:LU) (c1:UInt8),∃ n,qKd n s0 c1=qCH (z126 s0 c1):=fun _ _=>⟨0,rfl⟩
theorem qNl:∀ (s0:LU) (c1:UInt8),∃ n,qSK n s0 c1=qKe (z98 s0 c1):=fun _ _=>⟨0,rfl⟩
theorem qNm:∀ (c0:UInt8),∃ n,qMn n c0=qbO (z58 c0):=fun c=>⟨0,by
 unfold qMn qcV qfI qcf z58 qJK orI;cases decide (c < (33:UInt8)) <;> cases decide ((126:UInt8) < c) <;> cases z98 [33,42,43,45,47] c <;> cases z98 [43,47] c <;> cases z98 [40,41,60,62,64,44,59,58,92,34,47,91,93,63,61] c <;> cases z98 [42,39,37] c <;> rfl⟩
theorem qNn:∀ (c0:UInt8) (kinds1:Int),∃ n,qSL n c0 kinds1=qKf (z36 c0 kinds1):=fun _ _=>⟨0,rfl⟩
theorem qhF (c:UInt8):c.toNat < 256:=c.toNat_lt
theorem qDV (cs:LU) (x:UInt8):∀ (a:List Bool),a.length=256→(setOf cs a).getD x.toNat false=(cs.contains x||a.getD x.toNat false):=by
 induction cs with
 | nil=>intro a _; simp [setOf]
 | cons c cs ih =>
  intro a hl;show (setOf cs (List.set a c.toNat true)).getD x.toNat false=_;rw [ih _ (by simpa using hl)];have hx:=qhF x;have hc:=qhF c
  by_cases e:c=x
  ·subst e;have:(List.set a c.toNat true).getD c.toNat false=true:=by simp [List.getD,hl,hc]
   rw [this];simp
  ·have hne:c.toNat≠x.toNat:=fun h=>e (UInt8.toNat_inj.1 h);have:(List.set a c.toNat true).getD x.toNat false=a.getD x.toNat false:=by simp [List.getD,List.getElem?_set_ne hne]
   rw [this];have hb:¬ x=c:=fun h=>e h.symm;simp [hb]
theorem dT {p:Prop} [Decidable p] (h:p):decide p=true:=yo h
theorem dF {p:Prop} [Decidable p] (h:¬ p):decide p=false:=yx h
theorem wr {x:Int} (h : -9223372036854775808≤x∧x≤9223372036854775807):IntKind.wrap .i64 x=x:=IntWalk.i64_in x h
theorem tn (i:Nat):Int.toNat (i:Int)=i:=Int.toNat_natCast i
theorem bneI {a b:Int} (h:a≠b):(a==b)=false:=by simp [h]
theorem qi {α:Type} {l:List α} (h:l.length≤1048576):lenOk l=true:=by unfold lenOk; rw [ym]; exact h
theorem qqI (p:UInt8→Bool) (t:LU) (x:UInt8):dropR p (t++[x])=bif p x then dropR p t else t++[x]:=by
 unfold dropR;rw [List.reverse_append,List.reverse_singleton,List.singleton_append,List.dropWhile_cons];cases p x <;> simp
theorem qaY (p:UInt8→Bool):∀ s:LU,(s.dropWhile p).length≤s.length
 | []=>by simp
 | c :: s=>by
  rw [List.dropWhile_cons];split
  ·have:=qaY p s; simp only [yg]; omega
  ·exact yv _
theorem qtn (p:UInt8→Bool) (s:LU):(dropR p s).length≤s.length:=by
 have:=qaY p s.reverse;unfold dropR;simpa using this
theorem qvY (p:UInt8→Bool) (s:LU):(qfe p s).length≤s.length:=yL (qaY p _) (qtn p s)
theorem qIo:∀ (s0:LU) (c1:UInt8),(qwt s0 c1=true)→∃ n,qCN n s0 c1=qsQ (z146 s0 c1):=fun _ _ h=>by cases h
theorem qIp:∀ (s0:LU) (c1:UInt8),(qEF s0 c1=true)→∃ n,qCS n s0 c1=qCR (z156 s0 c1):=fun _ _ h=>by cases h
theorem qqJ (k0:LU→OA) (as:List Bool):∀ (d:Nat) (s:LU) (n:Nat),s.length=d→d < n→s.length≤1048576 →
 qhB k0 n s as=k0 (z157 s as)
 | d,s,0,hd,hn,hl=>by omega
 | d,s,n+1,hd,hn,hl=>by
  show qiq k0 (qhB k0 n) n s as=_;unfold qiq qaw z157;rcases List.eq_nil_or_concat s with rfl | ⟨t,x,rfl⟩
  ·rfl
  ·rw [List.concat_eq_append] at *
   have hlen:(t++[x]).length=t.length+1:=by simp
   have ih:=qqJ k0 as t.length t n rfl (by omega) (by omega);have hg:(t++[x]).getD (Int.toNat (((t++[x]).length:Int) - 1)) 0=x:=by
    rw [show Int.toNat (((t++[x]).length:Int) - 1)=t.length by omega]; simp
   have ht:List.take (Int.toNat (((t++[x]).length:Int) - 1)) (t++[x])=t:=by
    rw [show Int.toNat (((t++[x]).length:Int) - 1)=t.length by omega]; simp
   simp (disch:=omega) only [wr,dT,yc,yi,hg,ht,qqI];cases z153 as x with
   | true=>simpa [z157] using ih
   | false=>rfl
theorem qIq:∀ (s0:LU) (as1:List Bool),(qrh s0 as1=true)→∃ n,qvC n s0 as1=qCT (z157 s0 as1):=fun s as h=>⟨s.length+1,by
 unfold qvC;rw [qqJ _ as s.length s _ rfl (by omega) (qd h)];rfl⟩
theorem qqK (k0:LU→OA) (as:List Bool):∀ (d:Nat) (s:LU) (n:Nat),s.length=d→d < n→s.length≤1048576 →
 qhA k0 n s as=k0 (z148 s as)
 | d,s,0,hd,hn,hl=>by omega
 | d,[],n+1,hd,hn,hl=>rfl
 | d,x :: s,n+1,hd,hn,hl=>by
  show qio k0 (qhA k0 n) n (x :: s) as=_;unfold qio z148;have hlen:(x :: s).length=s.length+1:=rfl;have ih:=qqK k0 as s.length s n rfl (by omega) (by omega);have hg:(x :: s).getD (Int.toNat 0) 0=x:=rfl;have ht:List.drop (Int.toNat 1) (List.take (Int.toNat ((x :: s).length:Int)) (x :: s))=s:=by
   rw [tn,List.take_length]; rfl
  simp (disch:=omega) only [dT,yc,yi,hg,ht,List.dropWhile_cons];cases z153 as x with
  | true=>simpa [z148] using ih
  | false=>rfl
theorem qIr:∀ (s0:LU) (as1:List Bool),(qhK s0 as1=true)→∃ n,qvA n s0 as1=qsR (z148 s0 as1):=fun s as h=>⟨s.length+1,by
 unfold qvA;rw [qqK _ as s.length s _ rfl (by omega) (qd h)];unfold qfO;cases hc:z148 s as with
 | nil=>rfl
 | cons x r=>rfl⟩
theorem qkD (cs:LU) (c:UInt8):z153 (z147 cs).1 c=cs.contains c:=by
 have:=qDV cs c (List.replicate 256 false) List.length_replicate;unfold z153 z147;have hc:c.toNat < 256:=c.toNat_lt;rw [this,yY,List.getElem?_replicate,if_pos hc];exact Bool.or_false _
theorem qSP (cs s:LU):z148 (z157 s (z147 cs).1) (z147 cs).1=z129 s cs:=by
 unfold z148 z157 z129 qfe;have e:(fun c=>z153 (z147 cs).1 c)=fun c=>cs.contains c:=funext fun c=>qkD cs c;rw [e]
theorem qIs:∀ (s0:LU) (cutset1:LU),(qgk s0 cutset1=true)→∃ n,qCU n s0 cutset1=qdD (z129 s0 cutset1):=fun s cs h=>⟨0,by
 unfold qgk at h;simp only [yf,ym] at h;obtain ⟨h1,h2,h3,h4⟩:=h;have hls:=qd h1;unfold qCU qfP qbP;cases s with
 | nil=>rfl
 | cons x r =>
  have hcs:(cs==([]:LU))=false:=by cases cs with
   | nil=>simp at h2
   | cons a b=>rfl
  have hlen:(x :: r).length=r.length+1:=rfl;have hm:qcn cs=true:=by unfold qcn; rw [h3,h4]; rfl
  have hr:qhK (z157 (x :: r) (z147 cs).1) (z147 cs).1=true:=qi (yL (qtn _ _) hls);rw [bneI (by omega),hcs,bneI (by omega),hm,show (z147 cs).2=true from rfl,show qrh (x :: r) (z147 cs).1=true from h1,hr,qSP];rfl⟩
theorem qIt:∀ (c0:UInt8),∃ n,qCF n c0=qoe (z118 c0):=fun c=>⟨0,by
 unfold qCF z118;cases decide ((65:UInt8)≤c) <;> cases decide (c≤(90:UInt8)) <;> rfl⟩
theorem qSQ (f:UInt8→UInt8) (s:LU) (i:Nat) (h:i < s.length):List.set (s.take i |>.map f |> fun l=>l++s.drop i) i (f (s.getD i 0))=(s.take (i+1)).map f++s.drop (i+1):=by
 have hg:=qC (d:=(0:UInt8)) h;have hl:((s.take i).map f).length=i:=by simp; omega
 rw [hg,List.set_append_right _ _ (by omega),hl,Nat.sub_self,List.set_cons_zero];rw [show s.take (i+1)=s.take i++[s.getD i 0] by
  rw [List.take_add_one]; simp [List.getD,h]]
 simp
theorem qvZ (k0:LU→OA) (s:LU) (hl:s.length≤1048576):∀ (d i n:Nat),i+d=s.length→d < n →
 qof k0 n ((s.take i).map z118++s.drop i) (s.length:Nat) (i:Nat)=k0 (s.map z118)
 | d,i,0,hi,hn=>by omega
 | 0,i,n+1,hi,hn=>by
  show qgF k0 (qof k0 n) n _ _ _=_;unfold qgF;rw [dF (by omega),yd,show i=s.length by omega,List.take_length,List.drop_length,yG]
 | d+1,i,n+1,hi,hn=>by
  show qgF k0 (qof k0 n) n _ _ _=_;unfold qgF;have hlt:i < s.length:=by omega
  have ih:=qvZ k0 s hl d (i+1) n (by omega) (by omega);have hlen:((s.take i).map z118++s.drop i).length=s.length:=by simp; omega
  have hg:((s.take i).map z118++s.drop i).getD i 0=s.getD i 0:=by
   rw [qC (d:=(0:UInt8)) hlt];simp [List.getD,Nat.min_eq_left (Nat.le_of_lt hlt)]
  have hs:=qSQ z118 s i hlt;simp only at hs;simp (disch:=omega) only [dT,yc,yi,tn,qf,hlen,hg];rw [hs];exact ih
theorem qNo:∀ (s0:LU),(qyT s0=true)→∃ n,qHS n s0=qKb (z87 s0):=fun s h=>⟨s.length+1,by
 unfold qHS;rw [show qhW s=true from h,show z83 s=s from rfl];exact qvZ (qjM (s.length+1)) s (qd h) s.length 0 (s.length+1) (by omega) (by omega)⟩
theorem qkE (k0:Int→OA) (s:LU) (k:Int) (hl:s.length≤1048576):∀ (d i n m:Nat),i+d=s.length→d < n→m+d≤1048576 →
 qfJ k0 n k (m:Nat) s (s.length:Nat) (i:Nat)=k0 ((m+(s.drop i).countP (fun c=>z36 c k):Nat):Int)
 | d,i,0,m,hi,hn,hm=>by omega
 | 0,i,n+1,m,hi,hn,hm=>by
  show qed k0 (qfJ k0 n) n _ _ _ _ _=_;unfold qed;rw [dF (by omega),yd,yA (by omega)];rfl
 | d+1,i,n+1,m,hi,hn,hm=>by
  show qed k0 (qfJ k0 n) n _ _ _ _ _=_;unfold qed;have hlt:i < s.length:=by omega
  have ih:=qkE k0 s k hl d (i+1) n m (by omega) (by omega) (by omega);have ih2:=qkE k0 s k hl d (i+1) n (m+1) (by omega) (by omega) (by omega);rw [qC (d:=(0:UInt8)) hlt,List.countP_cons];simp (disch:=omega) only [dT,yc,yi,tn,qf];cases z36 (s.getD i 0) k with
  | true=>rw [yc,ih2]; congr 2; simp; omega
  | false=>rw [yd,ih]; congr 2
theorem qIu:∀ (s0:LU) (kinds1:Int),(qwu s0 kinds1=true)→∃ n,qvy n s0 kinds1=qCI (z122 s0 kinds1):=fun s k h=>⟨s.length+1,by
 have hl:=qd h;unfold qvy;have:=qkE (qfK (s.length+1)) s k hl s.length 0 (s.length+1) 0 (by omega) (by omega) (by omega);refine Eq.trans this ?_;rw [yE,yw];rfl⟩
theorem qDW (p:UInt8→Bool) (s:LU):(((s.countP p:Nat):Int)==((s.length:Nat):Int))=s.all p:=by
 rw [Bool.eq_iff_iff];simp only [beq_iff_eq,List.all_eq_true];have:=List.countP_eq_length (p:=p) (l:=s);constructor
 ·intro h; exact this.1 (by omega)
 ·intro h; have:=this.2 h; omega
theorem qNp:∀ (s0:LU) (kinds1:Int),(qyU s0 kinds1=true)→∃ n,qMo n s0 kinds1=qCJ (z90 s0 kinds1):=fun s k h=>⟨0,by
 unfold qMo;rw [show qwu s k=true from h];show qCJ (z122 s k==((s.length:Nat):Int))=_;unfold z122;rw [qDW];rfl⟩
theorem qIv:(fun c:UInt8=>([32,9]:LU).contains c)=blank:=by
 funext c;unfold blank;simp only [List.contains_cons,List.contains_nil,Bool.or_false]
theorem bneT {a b:Int} (h:a≠b):(a != b)=true:=by simp [bne,h]
theorem bneF {a b:Int} (h:a=b):(a != b)=false:=by simp [h]
theorem qDX (ret:Bool→OA) (k0:OA) (hk:k0=ret false) (s:LU) (c:UInt8) (hl:s.length≤1048576):∀ (d i n:Nat),i+d=s.length→d < n →
 qfY ret k0 n s c (i:Nat)=ret ((s.drop i).contains c)
 | d,i,0,hi,hn=>by omega
 | 0,i,n+1,hi,hn=>by
  show qeq ret k0 (qfY ret k0 n) n _ _ _=_;unfold qeq;rw [dF (by omega),yd,yA (by omega),hk];rfl
 | d+1,i,n+1,hi,hn=>by
  show qeq ret k0 (qfY ret k0 n) n _ _ _=_;unfold qeq;have hlt:i < s.length:=by omega
  have ih:=qDX ret k0 hk s c hl d (i+1) n (by omega) (by omega);rw [qC (d:=(0:UInt8)) hlt,List.contains_cons];simp (disch:=omega) only [dT,yc,yi,tn,qf];rw [ih,show (s.getD i 0==c)=(c==s.getD i 0) from Bool.beq_comm];cases (c==s.getD i 0) <;> rfl
theorem qIw (s:LU) (c:UInt8) (hl:s.length≤1048576):∃ n,qqz n s c=qgO (z140 s c):=⟨s.length+1,by
 unfold qqz;have:=qDX qgO (qfZ (s.length+1)) rfl s c hl s.length 0 (s.length+1) (by omega) (by omega);exact this⟩
theorem qIx:∀ (s0:LU) (c1:UInt8),(qKS s0 c1=true)→∃ n,qqz n s0 c1=qgO (z140 s0 c1):=fun s c h=>qIw s c (qd h)
theorem qNq:∀ (c0:UInt8) (kinds1:Int),∃ n,qSO n c0 kinds1=qKv (z79 c0 kinds1):=fun _ _=>⟨0,rfl⟩
theorem qdN (k0:Int→OA) (s:LU) (k:Int) (hl:s.length≤1048576):∀ (d i n m:Nat),i+d=s.length→d < n→m+d≤1048576 →
 qow k0 n s k (m:Nat) (i:Nat)=k0 ((m+(s.drop i).countP (fun c=>z36 c k):Nat):Int)
 | d,i,0,m,hi,hn,hm=>by omega
 | 0,i,n+1,m,hi,hn,hm=>by
  show qgP k0 (qow k0 n) n _ _ _ _=_;unfold qgP;rw [dF (by omega),yd,yA (by omega)];rfl
 | d+1,i,n+1,m,hi,hn,hm=>by
  show qgP k0 (qow k0 n) n _ _ _ _=_;unfold qgP;have hlt:i < s.length:=by omega
  have ih:=qdN k0 s k hl d (i+1) n m (by omega) (by omega) (by omega);have ih2:=qdN k0 s k hl d (i+1) n (m+1) (by omega) (by omega) (by omega);rw [qC (d:=(0:UInt8)) hlt,List.countP_cons];simp (disch:=omega) only [dT,yc,yi,tn,qf];rw [show z79 (s.getD i 0) k=z36 (s.getD i 0) k from rfl];cases z36 (s.getD i 0) k with
  | true=>rw [yc,ih2]; congr 2; simp; omega
  | false=>rw [yd,ih]; congr 2
theorem qNr:∀ (s0:LU) (kinds1:Int),(qyV s0 kinds1=true)→∃ n,qHY n s0 kinds1=qKw (z69 s0 kinds1):=fun s k h=>⟨s.length+1,by
 have hl:=qd h;unfold qHY;have:=qdN (qkl (s.length+1)) s k hl s.length 0 (s.length+1) 0 (by omega) (by omega) (by omega);refine Eq.trans this ?_;rw [yE,yw];rfl⟩
theorem qNs {P:UInt8→Prop} (h:∀ i:Fin 256,P (UInt8.ofNat i.val)) (c:UInt8):P c:=by
 have:=h ⟨c.toNat,c.toNat_lt⟩;simpa using this
theorem qyF:∀ i:Fin 256,(bif decide ((65:UInt8)≤UInt8.ofNat i.val) then (bif decide (UInt8.ofNat i.val≤(90:UInt8)) then UInt8.ofNat i.val+32 else UInt8.ofNat i.val) else UInt8.ofNat i.val)=z118 (UInt8.ofNat i.val):=by decide +kernel
theorem qIy:∀ (c0:UInt8),∃ n,qDN n c0=qov (z109 c0):=fun c=>⟨0,by
 have h:=qNs (P:=fun c=>(bif decide ((65:UInt8)≤c) then (bif decide (c≤(90:UInt8)) then c+32 else c) else c)=z118 c) qyF c;unfold qDN z109;rw [← h];cases decide ((65:UInt8)≤c) <;> cases decide (c≤(90:UInt8)) <;> rfl⟩
theorem qKD {s:LU} (h:s.length=1):∃ c,s=[c]:=List.length_eq_one_iff.1 h
theorem qIz:∀ (s0:LU) (sep1:LU),(qmc s0 sep1=true)→∃ n,qCE n s0 sep1=qjK (z142 s0 sep1):=fun s sep h=>⟨0,by
 unfold qmc at h;simp only [yf,ym] at h;obtain ⟨c,rfl⟩:=qKD h.2;rfl⟩
theorem qgj (c:UInt8) (cur:LU) (x:UInt8) (r:LU):cutC c cur (x :: r)=bif x==c then cur :: cutC c [] r else cutC c (cur++[x]) r:=rfl
theorem qwa (c:UInt8):∀ (s cur:LU),c ∉ s→cutC c cur s=[cur++s]
 | [],cur,_=>by rw [yG]; rfl
 | x :: r,cur,h=>by
  have hx:(x==c)=false:=beq_eq_false_iff_ne.2 (fun e=>h (by rw [e]; exact List.mem_cons_self ..));rw [qgj,hx,yd,qwa c r _ (fun hm=>h (List.mem_cons_of_mem _ hm)),yl];rfl
theorem qKE (c:UInt8) (r:LU):∀ (x cur:LU),c ∉ x→cutC c cur (x++c :: r)=(cur++x) :: cutC c [] r
 | [],cur,_=>by
  show cutC c cur (c :: r)=_;rw [qgj,beq_self_eq_true,yc,yG]
 | y :: x,cur,h=>by
  have hx:(y==c)=false:=beq_eq_false_iff_ne.2 (fun e=>h (by rw [e]; exact List.mem_cons_self ..));show cutC c cur (y :: (x++c :: r))=_;rw [qgj,hx,yd,qKE c r x _ (fun hm=>h (List.mem_cons_of_mem _ hm)),yl];rfl
theorem qkF (c:UInt8) (r:LU):∀ (x:LU),c ∉ x→Lib.indexByte (x++c :: r) c=(x.length:Int)
 | [],_=>by simp [Lib.indexByte]
 | y :: x,h=>by
  have hx:(y==c)=false:=beq_eq_false_iff_ne.2 (fun e=>h (by rw [e]; exact List.mem_cons_self ..));have ih:=qkF c r x (fun hm=>h (List.mem_cons_of_mem _ hm));show Lib.indexByte (y :: (x++c :: r)) c=_;unfold Lib.indexByte;rw [ih,hx];have e:((x.length:Int) == -1)=false:=by simp
  simp [e]
theorem qDY (m:Nat) (c:UInt8) (N:Nat) (hN:N≤1048576):∀ (d:Nat) (s:LU) (done:List LU) (n:Nat),s.count c=d→d < n→done.length+d=N→s.length≤1048576 →
 qcs (qal m) n s [c] 0 (N:Nat) (done++List.replicate (d+1) []) (done.length:Nat)=qjL (done++cutC c [] s)
 | d,s,done,0,_,hn,_,_=>by omega
 | 0,s,done,n+1,hc,hn,hd,hs=>by
  show qcz (qal m) (qcs (qal m) n) n _ _ _ _ _ _=_;unfold qcz;have hmem:c ∉ s:=List.count_eq_zero.1 hc;rw [dF (by omega),yd];unfold qal;have hset:List.set (done++List.replicate (0+1) ([]:LU)) done.length s=done++[s]:=by
   rw [List.set_append_right _ _ (yv _),Nat.sub_self];rfl
  have hlen:(done++List.replicate (0+1) ([]:LU)).length=done.length+1:=by simp
  rw [tn,hset,hlen,qf (by omega)];have hl2:(done++[s]).length=done.length+1:=by simp
  rw [hl2];simp (disch:=omega) only [dT,yc,yi,tn];rw [yw,List.take_of_length_le (by omega),qwa c s [] hmem];rfl
 | d+1,s,done,n+1,hc,hn,hd,hs=>by
  show qcz (qal m) (qcs (qal m) n) n _ _ _ _ _ _=_;unfold qcz;have hmem:c∈s:=List.count_pos_iff.1 (by omega);obtain ⟨x,r,rfl,hx⟩:=List.eq_append_cons_of_mem hmem;have hi:z57 (x++c :: r) [c]=(x.length:Int):=by
   unfold z57;rw [Lib.index_one,qkF c r x hx]
  have hlen:(x++c :: r).length=x.length+(r.length+1):=by simp
  have hok:qrf (x++c :: r) [c]=true:=by
   unfold qrf;rw [qi hs];rfl
  have hcr:r.count c=d:=by
   rw [List.count_append,List.count_eq_zero.2 hx,List.count_cons_self] at hc;omega
  have hdl:(done++List.replicate (d+1+1) ([]:LU)).length=done.length+(d+2):=by simp
  have hset:List.set (done++List.replicate (d+1+1) ([]:LU)) done.length x=(done++[x])++List.replicate (d+1) []:=by
   rw [List.set_append_right _ _ (yv _),Nat.sub_self,yl];rfl
  have h1:(([c]:LU).length:Nat)=1:=rfl;have hw:IntKind.wrap .i64 ((x.length:Int)+0)=(x.length:Int):=by rw [wr (by omega)]; omega
  have hw2:IntKind.wrap .i64 ((x.length:Int)+((1:Nat):Int))=((x.length+1:Nat):Int):=by rw [wr (by omega)]; omega
  have ih:=qDY m c N hN d r (done++[x]) n hcr (by omega) (by simp; omega) (by omega);rw [hi,hok,h1,hw,hw2,hdl,hlen];simp (disch:=omega) only [dT,dF,yc,yd,yi,tn,qf];have e1:(x++c :: r).take (x.length+(r.length+1))=x++c :: r:=List.take_of_length_le (by omega);have e2:(x++c :: r).take x.length=x:=List.take_left;have e3:(x++c :: r).drop (x.length+1)=r:=by
   rw [← List.drop_drop,List.drop_left];rfl
  rw [e1,e2,e3,yw,hset,qKE c r x [] hx];rw [show (done++[x]).length=done.length+1 by simp] at ih;rw [ih,yl];rfl
theorem qIA:∀ (s0:LU) (sep1:LU) (sepSave2:Int) (n3:Int),(qmd s0 sep1 sepSave2 n3=true)→∃ n,qvx n s0 sep1 sepSave2 n3=qjL (z116 s0 sep1 sepSave2 n3):=fun s sep save k h=>⟨s.length+1,by
 unfold qmd at h;simp only [yf,ym,beq_iff_eq] at h;obtain ⟨⟨h1,h2⟩,rfl,rfl⟩:=h;obtain ⟨c,rfl⟩:=qKD h2;have hl:=qd h1;have hc:s.count c≤s.length:=List.count_le_length;unfold qvx qbf qbe;have hok:qmc s [c]=true:=by unfold qmc; rw [h1]; rfl
 have hcnt:z142 s [c]=((s.count c:Nat):Int):=rfl;have hw1:IntKind.wrap .i64 (((s.length:Nat):Int)+1)=((s.length+1:Nat):Int):=by rw [wr (by omega)]; omega
 have hw2:IntKind.wrap .i64 (((s.count c:Nat):Int)+1)=((s.count c+1:Nat):Int):=by rw [wr (by omega)]; omega
 have hw3:IntKind.wrap .i64 (((s.count c+1:Nat):Int) - 1)=((s.count c:Nat):Int):=by rw [wr (by omega)]; omega
 have hroom:((s.count c+1:Nat):Int)≤(room:Int):=by unfold room; omega
 rw [show (((-1:Int))==0)=false from rfl,show ((((([c]:LU)).length:Nat):Int)==0)=false from rfl,show decide ((-1:Int) < 0)=true from rfl,hok,hcnt,hw1,hw2];simp only [yd,yc,yi];rw [dF (show ¬ ((s.length+1:Nat):Int) < ((s.count c+1:Nat):Int) by omega),yd,hw3,dT hroom,tn];simp (disch:=omega) only [dT,yc,yi];exact qDY (s.length+1) c (s.count c) (by omega) (s.count c) s [] (s.length+1) rfl (by omega) (by simp) hl⟩
theorem qNt:∀ (s0:LU) (sep1:LU),(qEA s0 sep1=true)→∃ n,qMk n s0 sep1=qKa (z82 s0 sep1):=fun s sep h=>⟨0,by
 unfold qMk;have:qmd s sep 0 (-1)=true:=by
  unfold qmd;rw [show (lenOk s&&decide (sep.length=1))=true from h];rfl
 rw [this];rfl⟩
theorem qDZ (s:LU) (c:UInt8):(z87 s==[c])=(match s with | [x]=>z118 x==c | _=>false):=by
 unfold z87;match s with
 | []=>rfl
 | [x]=>simp
 | x :: y :: r=>simp
theorem qNu:∀ (s0:LU),(qJC s0=true)→∃ n,qMl n s0=qqu (z84 s0):=fun s h=>⟨0,by
 unfold qMl;rw [show qyT s=true from h,qDZ,qDZ];match s with
 | []=>rfl
 | [x] =>
  show (bif z118 x==98 then _ else bif z118 x==113 then _ else _)=qqu (bif z118 x==98 then 1 else bif z118 x==113 then 2 else 0);cases (z118 x==98) <;> cases (z118 x==113) <;> rfl
 | x :: y :: r=>rfl⟩
theorem qNv:∀ (s0:LU) (kinds1:Int),(qhU s0 kinds1=true)→∃ n,qMp n s0 kinds1=qCK (z85 s0 kinds1):=fun s k h=>⟨0,by
 unfold qMp;rw [show qyU s k=true from h];cases s with
 | nil=>rfl
 | cons x r =>
  rw [dT (by simp only [yg]; omega)];rfl⟩
theorem qNw:∀ (c0:UInt8),∃ n,qMR n c0=qvQ (z68 c0):=fun c=>⟨0,by
 unfold qMR z68 codeC z109;cases (z118 c==98) <;> cases (z118 c==113) <;> rfl⟩
theorem qoH (c:UInt8):∀ (s cur x:LU),x∈cutC c cur s→x.length≤cur.length+s.length
 | [],cur,x,h=>by
  have:x∈[cur]:=h;simp only [List.mem_singleton] at this;subst this;exact yv _
 | y :: r,cur,x,h=>by
  rw [qgj] at h;cases hy:(y==c) with
  | true =>
   rw [hy,yc] at h;rcases List.mem_cons.1 h with rfl | h
   ·exact Nat.le_add_right _ _
   ·have:=qoH c r [] x h;simp only [List.length_nil,yg] at this ⊢;omega
  | false =>
   rw [hy,yd] at h;have:=qoH c r _ x h;simp only [yn,yg,List.length_nil] at this ⊢;omega
theorem five {α:Type} {L:List α} (h:L.length=5):∃ a n c t b,L=[a,n,c,t,b]:=by
 match L,h with
 | [a,n,c,t,b],_=>exact ⟨a,n,c,t,b,rfl⟩
theorem qqL (k:Nat) {L:List LU} (h:L.length≠5):qkR k L=(qqZ,3):=by
 unfold qkR;split
 ·exact absurd rfl h
 ·rfl
theorem qyG (k:Nat) (a name c text b:LU):qkR k [a,name,c,text,b]=bif decide (a=[61])&&decide (b=[61]) then (bif (codeL c==0)||(!(fullB name 64) || !(fullB text 4)) then (qqZ,3) else bif decide (75 < k) then (qqZ,12) else ((name,(codeL c,(text,()))),0)) else (qqZ,3):=rfl
theorem qNx:∀ (s0:LU),(qlj s0=true)→∃ n,qMq n s0=qaf (z51 s0).1 (z51 s0).2:=fun s h=>⟨0,by
 have hl:=qd h;have hok:qEA s [63]=true:=by unfold qEA; rw [show lenOk s=true from h]; rfl
 have hmem:∀ x∈cutC 63 [] s,x.length≤1048576:=fun x hx=>by
  have:=qoH 63 s [] x hx;simp only [List.length_nil] at this;omega
 unfold qMq qcW qim qfL qcg qog qI qA z51;rw [hok,show z82 s [63]=cutC 63 [] s from rfl];generalize cutC 63 [] s=L at hmem ⊢;have h75:decide ((75:Int) < ((s.length:Nat):Int))=decide (75 < s.length):=by rw [Bool.eq_iff_iff]; simp only [ym]; omega
 rw [h75];generalize hk:s.length=k
 by_cases h5:L.length=5
 ·obtain ⟨a,n,c,t,b,rfl⟩:=five h5;have okn:qhW n=true:=qi (hmem n (by simp));have okt:qhW t=true:=qi (hmem t (by simp));have okc:qJC c=true:=qi (hmem c (by simp));have okn2:qhU n 64=true:=qi (hmem n (by simp));have okt2:qhU t 4=true:=qi (hmem t (by simp));have c0:(decide ((0:Int)≤0)&&decide ((0:Int) < ((List.length [a,n,c,t,b]:Nat):Int)))=true:=rfl;have c1:(decide ((0:Int)≤1)&&decide ((1:Int) < ((List.length [a,n,c,t,b]:Nat):Int)))=true:=rfl;have c2:(decide ((0:Int)≤2)&&decide ((2:Int) < ((List.length [a,n,c,t,b]:Nat):Int)))=true:=rfl;have c3:(decide ((0:Int)≤3)&&decide ((3:Int) < ((List.length [a,n,c,t,b]:Nat):Int)))=true:=rfl;have c4:(decide ((0:Int)≤4)&&decide ((4:Int) < ((List.length [a,n,c,t,b]:Nat):Int)))=true:=rfl;have g0:List.getD [a,n,c,t,b] (Int.toNat 0) []=a:=rfl;have g1:List.getD [a,n,c,t,b] (Int.toNat 1) []=n:=rfl;have g2:List.getD [a,n,c,t,b] (Int.toNat 2) []=c:=rfl;have g3:List.getD [a,n,c,t,b] (Int.toNat 3) []=t:=rfl;have g4:List.getD [a,n,c,t,b] (Int.toNat 4) []=b:=rfl;have e5:((((List.length [a,n,c,t,b]:Nat)):Int) != 5)=false:=rfl;have ecl:∀ x,z83 x=x:=fun _=>rfl;simp only [e5,c0,c1,c2,c3,c4,g0,g1,g2,g3,g4,okn,okt,okc,okn2,okt2,ecl,qar,yc,yd,yi];show _=qaf (qkR k [a,n,c,t,b]).1 (qkR k [a,n,c,t,b]).2;unfold qkR;simp only [show z84 c=codeL c from rfl,show z85 n 64=fullB n 64 from rfl,show z85 t 4=fullB t 4 from rfl]
  by_cases ha:a=[61]
  ·by_cases hb:b=[61]
   ·subst ha hb;simp only [decide_true,yi,yc,bne_self_eq_false,yd];cases (codeL c==0) <;> cases fullB n 64 <;> cases fullB t 4 <;> cases decide (75 < k) <;> rfl
   ·rw [yx hb,Bool.and_false,show (b != [61])=true from bne_iff_ne.2 hb,yc];subst ha;rfl
  ·rw [yx ha,Bool.false_and,show (a != [61])=true from bne_iff_ne.2 ha,yc];rfl
 ·rw [bneT (by omega),qqL k h5];rfl⟩
theorem qIB:∀ (s0:LU),(qra s0=true)→∃ n,qDm n s0=qDl (z130 s0):=fun s h=>⟨0,by
 unfold qDm;rw [show qlj s=true from h];rfl⟩
theorem qNy:∀ (s0:LU),(qlk s0=true)→∃ n,qMS n s0=qck (z42 s0).1 (z42 s0).2:=fun s h=>⟨0,by
 have hl:=qd h;have hmem:∀ x∈cutC 63 [] s,x.length≤1048576:=fun x hx=>by
  have:=qoH 63 s [] x hx;simp only [List.length_nil] at this;omega
 unfold qMS qiB qet qes qer qgb qga qaL z42 z51;rw [show qJD s=true from h,show z67 s=cutC 63 [] s from rfl];generalize cutC 63 [] s=L at hmem ⊢;have h75:decide ((75:Int) < ((s.length:Nat):Int))=decide (75 < s.length):=by rw [Bool.eq_iff_iff]; simp only [ym]; omega
 rw [h75];generalize hk:s.length=k
 by_cases h5:L.length=5
 ·obtain ⟨a,n,c,t,b,rfl⟩:=five h5;have okn2:qyV n 64=true:=qi (hmem n (by simp));have okt2:qyV t 4=true:=qi (hmem t (by simp));have c0:(decide ((0:Int)≤0)&&decide ((0:Int) < ((List.length [a,n,c,t,b]:Nat):Int)))=true:=rfl;have c1:(decide ((0:Int)≤1)&&decide ((1:Int) < ((List.length [a,n,c,t,b]:Nat):Int)))=true:=rfl;have c2:(decide ((0:Int)≤2)&&decide ((2:Int) < ((List.length [a,n,c,t,b]:Nat):Int)))=true:=rfl;have c3:(decide ((0:Int)≤3)&&decide ((3:Int) < ((List.length [a,n,c,t,b]:Nat):Int)))=true:=rfl;have c4:(decide ((0:Int)≤4)&&decide ((4:Int) < ((List.length [a,n,c,t,b]:Nat):Int)))=true:=rfl;have g0:List.getD [a,n,c,t,b] (Int.toNat 0) []=a:=rfl;have g1:List.getD [a,n,c,t,b] (Int.toNat 1) []=n:=rfl;have g2:List.getD [a,n,c,t,b] (Int.toNat 2) []=c:=rfl;have g3:List.getD [a,n,c,t,b] (Int.toNat 3) []=t:=rfl;have g4:List.getD [a,n,c,t,b] (Int.toNat 4) []=b:=rfl;have e5:((((List.length [a,n,c,t,b]:Nat)):Int) != 5)=false:=rfl;have full:∀ (x:LU) (q:Int),fullB x q=(!((((x.length:Nat):Int))==0) && !(z69 x q != ((x.length:Nat):Int))):=fun x q=>by
   unfold fullB;cases x with
   | nil=>rfl
   | cons y r =>
    rw [bneI (show (((y :: r).length:Nat):Int)≠0 by simp only [yg]; omega)];show (true&&List.all (y :: r) _)=(true&&_);rw [y5,y5,Bool.eq_iff_iff];show _↔(!((((y :: r).countP (fun c=>z36 c q):Nat):Int) != (((y :: r).length:Nat):Int)))=true;rw [List.all_eq_true];constructor
    ·intro hh;rw [bneF (by rw [List.countP_eq_length.2 hh])];rfl
    ·intro hh;have:(y :: r).countP (fun c=>z36 c q)=(y :: r).length:=by
      rcases Decidable.em ((y :: r).countP (fun c=>z36 c q)=(y :: r).length) with e | e
      ·exact e
      ·rw [bneT (by omega)] at hh;cases hh
     exact List.countP_eq_length.1 this
  show _=qck (qkR k [a,n,c,t,b]).1 (qkR k [a,n,c,t,b]).2;rw [qyG,full n 64,full t 4];simp only [e5,c0,c1,c2,c3,c4,g0,g1,g2,g3,g4,okn2,okt2,yc,yd,yi]
  by_cases ha:a=[61]
  ·by_cases hb:b=[61]
   ·subst ha hb;simp only [decide_true,yi,yc,bne_self_eq_false,yd];match c with
    | []=>rfl
    | [x] =>
     show _=qck _ _;have q0:(((([x]:LU).length:Nat):Int) != 1)=false:=rfl;have q1:(decide ((0:Int)≤0)&&decide ((0:Int) < ((List.length [x]:Nat):Int)))=true:=rfl;have q2:List.getD [x] (Int.toNat 0) 0=x:=rfl;have q3:codeL [x]=codeC x:=rfl;simp only [q0,q1,q2,q3,show z68 x=codeC x from rfl,yc,yd];cases (codeC x==0) <;> cases ((((n.length:Nat)):Int)==0) <;> cases (z69 n 64 != ((n.length:Nat):Int)) <;> cases ((((t.length:Nat)):Int)==0) <;> cases (z69 t 4 != ((t.length:Nat):Int)) <;> cases decide (75 < k) <;> rfl
    | x :: y :: r =>
     have q0:((((x :: y :: r).length:Nat):Int) != 1)=true:=bneT (by simp only [yg]; omega);rw [q0];rfl
   ·rw [yx hb,Bool.and_false,show (b != [61])=true from bne_iff_ne.2 hb,yc];subst ha;rfl
  ·rw [yx ha,Bool.false_and,show (a != [61])=true from bne_iff_ne.2 ha,yc];rfl
 ·rw [bneT (by omega),qqL k h5];rfl⟩
theorem qIC {α:Type} (pre:List α) (x d:α):List.getD (pre++[x]) pre.length d=x:=by
 rw [yY,yN (yv _),Nat.sub_self];rfl
theorem qNz {α:Type} (pre:List α) (x y:α):List.set (pre++[x]) pre.length y=pre++[y]:=by
 rw [List.set_append_right _ _ (yv _),Nat.sub_self];rfl
theorem qto (k0:List LU→OA) (s:LU) (hl:s.length≤1048576):∀ (d i n:Nat) (pre:List LU) (cur:LU),i+d=s.length→d < n→pre.length+d≤1048576→cur.length+d≤1048576 →
 qou k0 n s (pre++[cur]) (i:Nat)=k0 (pre++cutC 63 cur (s.drop i))
 | d,i,0,pre,cur,hi,hn,hp,hc=>by omega
 | 0,i,n+1,pre,cur,hi,hn,hp,hc=>by
  show qgN k0 (qou k0 n) n _ _ _=_;unfold qgN qaa;rw [dF (by omega),yd,yA (by omega)];rfl
 | d+1,i,n+1,pre,cur,hi,hn,hp,hc=>by
  show qgN k0 (qou k0 n) n _ _ _=_;unfold qgN qaa;have hlt:i < s.length:=by omega
  have h1:=qto k0 s hl d (i+1) n (pre++[cur]) [] (by omega) (by omega) (by simp; omega) (by simp; omega);have h2:=qto k0 s hl d (i+1) n pre (cur++[List.getD s i 0]) (by omega) (by omega) (by omega) (by simp; omega);have hlen:(pre++[cur]).length=pre.length+1:=by simp
  have hw:IntKind.wrap .i64 (((pre.length+1:Nat):Int) - 1)=((pre.length:Nat):Int):=by rw [wr (by omega)]; omega
  have r1:decide (pre.length+1+([[]]:List LU).length≤room)=true:=dT (by unfold room; simp; omega);have r2:decide (cur.length+([List.getD s i 0]:LU).length≤room)=true:=dT (by unfold room; simp; omega);rw [qC (d:=(0:UInt8)) hlt,qgj,hlen,hw];simp (disch:=omega) only [dT,yc,yi,tn,qf,qIC,qNz,r1,r2,beq_self_eq_true];cases hx:(List.getD s i 0==63) with
  | true =>
   rw [yc,yc,h1,yl];rfl
  | false=>rw [yd,yd,h2]
theorem qNA:∀ (s0:LU),(qJD s0=true)→∃ n,qHX n s0=qKu (z67 s0):=fun s h=>⟨s.length+1,by
 have hl:=qd h;unfold qHX;exact qto (qkk (s.length+1)) s hl s.length 0 (s.length+1) [] [] (by omega) (by omega) (by simpa using hl) (by simpa using hl)⟩
theorem qNB:∀ (a0:LU) (b1:LU),∃ n,qSJ n a0 b1=qJZ (z93 a0 b1):=fun _ _=>⟨0,rfl⟩
theorem qID:∀ (s0:LU),(qmf s0=true)→∃ n,qCW n s0=qCV (z119 s0):=fun s h=>⟨0,by
 have hl:=qd h;have h1:qgk s [32,9]=true:=by unfold qgk; rw [show lenOk s=true from h]; rfl
 have e:z129 s [32,9]=z119 s:=by unfold z129 z119; rw [qIv]
 unfold qCW;rw [h1,e,show qhW (z119 s)=true from qi (yL (qvY _ _) hl)];rfl⟩
theorem qoI (p:UInt8→Bool) (s:LU):dropR p (s.dropWhile p)=qfe p s:=by
 unfold qfe;induction s with
 | nil=>rfl
 | cons c s ih =>
  rw [List.dropWhile_cons];cases hc:p c with
  | true =>
   rw [if_pos rfl,ih];rcases List.eq_nil_or_concat (dropR p s) with h0 | ⟨t,x,h0⟩
   ·have:dropR p (c :: s)=[]:=by
     unfold dropR at h0 ⊢;rw [List.reverse_cons,List.dropWhile_append];have h1:s.reverse.dropWhile p=[]:=by simpa using h0
     rw [h1];simp [hc]
    rw [h0,this]
   ·have:dropR p (c :: s)=c :: dropR p s:=by
     unfold dropR at h0 ⊢;rw [List.reverse_cons,List.dropWhile_append];have h1:(s.reverse.dropWhile p).isEmpty=false:=by
      cases hh:s.reverse.dropWhile p with
      | nil=>rw [hh] at h0; simp at h0
      | cons a b=>rfl
     rw [h1];simp
    rw [this,List.dropWhile_cons,hc];rfl
  | false =>
   simp only [yq,if_false];have:dropR p (c :: s)=c :: dropR p s∨dropR p (c :: s)=[c]∧dropR p s=[]:=by
    unfold dropR;rw [List.reverse_cons,List.dropWhile_append];cases hh:s.reverse.dropWhile p with
    | nil=>right; simp [hc]
    | cons a b=>left; simp
   rcases this with h | ⟨h,_⟩
   ·rw [h,List.dropWhile_cons,hc]; rfl
   ·rw [h,List.dropWhile_cons,hc]; rfl
theorem qEa (x:UInt8) (s:LU) (c:UInt8):Lib.indexByte (x :: s) c=if (x==c)=true then 0 else if (Lib.indexByte s c == -1)=true then -1 else Lib.indexByte s c+1:=rfl
theorem ib_lt:∀ (s:LU) (c:UInt8),Lib.indexByte s c < (s.length:Int)
 | [],c=>by show (-1:Int) < ((0:Nat):Int); omega
 | x :: s,c=>by
  have:=ib_lt s c;have hg:=Lib.indexByte_ge s c;rw [qEa];simp only [yg];split
  ·omega
  ·split <;> omega
theorem qlQ:∀ (s:LU) (c:UInt8),(Lib.indexByte s c != -1)=s.contains c
 | [],c=>rfl
 | x :: s,c=>by
  have ih:=qlQ s c;have hg:=Lib.indexByte_ge s c;rw [List.contains_cons,← ih,qEa];cases hx:(x==c) with
  | true =>
   have:(c==x)=true:=by rw [Bool.beq_comm]; exact hx
   rw [this]; rfl
  | false =>
   have:(c==x)=false:=by rw [Bool.beq_comm]; exact hx
   rw [this,Bool.false_or];simp only [yq,if_false]
   by_cases h:Lib.indexByte s c = -1
   ·rw [h]; rfl
   ·rw [if_neg (by simpa using h),bneT (by omega),bneT h]
theorem qVE (s:LU) (c:UInt8):decide (Lib.indexByte s c < 0) = !s.contains c:=by
 have hg:=Lib.indexByte_ge s c;rw [← qlQ]
 by_cases h:Lib.indexByte s c = -1
 ·rw [h]; rfl
 ·rw [bneT h,dF (by omega)]; rfl
theorem qVF (n:Int):Int.tmod (Int.tmod n 16+16) 16=n % 16:=by
 have h:Int.tmod n 16=n % 16∨Int.tmod n 16=n % 16 - 16:=by
  rcases Int.le_total 0 n with h | h
  ·exact .inl (Int.tmod_eq_emod_of_nonneg h)
  ·have h2:Int.tmod n 16 = -((-n) % 16):=by
    have:=Int.neg_tmod (-n) 16;rw [Int.neg_neg] at this;rw [this,Int.tmod_eq_emod_of_nonneg (by omega)]
   omega
 have h3:0≤Int.tmod n 16+16:=by omega
 rw [Int.tmod_eq_emod_of_nonneg h3];omega
theorem qtp (n:Int) : -16 < Int.tmod n 16∧Int.tmod n 16 < 16:=by
 have h:Int.tmod n 16=n % 16∨Int.tmod n 16=n % 16 - 16∧n % 16≠0:=by
  rcases Int.le_total 0 n with h | h
  ·exact .inl (Int.tmod_eq_emod_of_nonneg h)
  ·have h2:Int.tmod n 16 = -((-n) % 16):=by
    have:=Int.neg_tmod (-n) 16;rw [Int.neg_neg] at this;rw [this,Int.tmod_eq_emod_of_nonneg (by omega)]
   omega
 omega
theorem qtq:∀ j:Fin 16,(bif decide (((j.val:Nat):Int) < 10) then UInt8.ofNat (Int.toNat (IntKind.wrap .u8 (IntKind.wrap .i64 ((48:Int)+((j.val:Nat):Int)))))
 else UInt8.ofNat (Int.toNat (IntKind.wrap .u8 (IntKind.wrap .i64 ((IntKind.wrap .i64 ((65:Int)+((j.val:Nat):Int))) - (10:Int))))))=List.getD hexD j.val 0:=by decide +kernel
theorem qIE:∀ (n0:Int),(qlv n0=true)→∃ n,qDS n n0=qtg (z139 n0):=fun n _=>⟨0,by
 unfold qDS qgg z139;have hr:=qtp n;rw [IntWalk.i64_in (Int.tmod n 16+16) (by omega),qVF];have hj:(n % 16).toNat < 16:=by omega
 have:=qtq ⟨(n % 16).toNat,hj⟩;simp only [Int.toNat_of_nonneg (show 0≤n % 16 by omega)] at this;rw [← this];cases decide (n % 16 < 10) <;> rfl⟩
theorem qEb (c:UInt8):IntKind.wrap .i64 ((UInt8.toNat c:Nat):Int)=((UInt8.toNat c:Nat):Int):=by
 have:=c.toNat_lt;exact IntWalk.i64_in _ (by omega)
theorem qIF:∀ (c0:UInt8),∃ n,qDd n c0=qjP (z175 c0).1 (z175 c0).2:=fun c=>⟨0,by
 unfold qDd z175;have h:=(z118 c - 97).toNat_lt;rw [qEb,qEb,IntWalk.i64_in (((z118 c - 97).toNat:Int)+10) (by omega)];cases z36 (z118 c) 8 <;> cases decide ((97:UInt8)≤z118 c) <;> cases decide (z118 c≤(102:UInt8)) <;> rfl⟩
theorem qwb (ret:Int→Bool→OA) (k0:OA) (hk:k0=ret 0 false) (c:UInt8):∀ (d:Nat) (i:Int) (n:Nat),i+d=16→0≤i→d < n →
 qgh ret k0 n c i=ret (qrK d i c).1 (qrK d i c).2
 | d,i,0,hi,h0,hn=>by omega
 | 0,i,n+1,hi,h0,hn=>by
  show qez ret k0 (qgh ret k0 n) n c i=_;unfold qez;rw [yx (by omega),yd,hk];rfl
 | d+1,i,n+1,hi,h0,hn=>by
  show qez ret k0 (qgh ret k0 n) n c i=_;unfold qez;have hok:qlv i=true:=by unfold qlv; rw [ym]; omega
  rw [yo (by omega),yc,hok,IntWalk.i64_in (i+1) (by omega),qwb ret k0 hk c d (i+1) n (by omega) (by omega) (by omega)];show _=ret (bif z139 i==c then (i,true) else bif decide ((10:Int)≤i)&&(z139 i+32==c) then (i,true) else qrK d (i+1) c).1 (bif z139 i==c then (i,true) else bif decide ((10:Int)≤i)&&(z139 i+32==c) then (i,true) else qrK d (i+1) c).2;generalize qrK d (i+1) c=z;cases z139 i==c <;> cases decide ((10:Int)≤i) <;> cases z139 i+32==c <;> rfl
theorem qIG:∀ (c0:UInt8),∃ n,qDT n c0=qky (z112 c0).1 (z112 c0).2:=fun c=>⟨17,qwb qky (qgi 17) rfl c 16 0 17 (by omega) (by omega) (by omega)⟩
theorem qEc:∀ i:Fin 256,z175 (UInt8.ofNat i.val)=z112 (UInt8.ofNat i.val):=by decide +kernel
theorem qtr:∀ i:Fin 256,0≤(z175 (UInt8.ofNat i.val)).1∧(z175 (UInt8.ofNat i.val)).1 < 16:=by decide +kernel
theorem qSR {P:UInt8→Prop} (h:∀ i:Fin 256,P (UInt8.ofNat i.val)) (c:UInt8):P c:=by
 have:=h ⟨c.toNat,c.toNat_lt⟩;simpa using this
theorem qSS (c:UInt8):z112 c=z175 c:=(qSR (P:=fun c=>z175 c=z112 c) qEc c).symm
theorem qeB (c:UInt8):0≤(z175 c).1∧(z175 c).1 < 16:=qSR (P:=fun c=>0≤(z175 c).1∧(z175 c).1 < 16) qtr c
theorem qNC:∀ a b:Fin 16,UInt8.ofNat (Int.toNat (IntKind.wrap .u8 (bits .or .i64 (IntKind.wrap .i64 (((a.val:Nat):Int)*2 ^ (min (Int.toNat (4:Int)) (IntKind.bits .i64)))) ((b.val:Nat):Int))))=UInt8.ofNat (Int.toNat (((a.val:Nat):Int)*16+((b.val:Nat):Int))):=by decide +kernel
theorem qIH:∀ a b:Fin 16,UInt8.ofNat (Int.toNat (IntKind.wrap .u8 (IntKind.wrap .i64 ((IntKind.wrap .i64 ((16:Int)*((a.val:Nat):Int)))+((b.val:Nat):Int)))))=UInt8.ofNat (Int.toNat (((a.val:Nat):Int)*16+((b.val:Nat):Int))):=by decide +kernel
theorem qEd {P:Int→Int→Prop} (h:∀ a b:Fin 16,P ((a.val:Nat):Int) ((b.val:Nat):Int)) {x y:Int} (hx:0≤x∧x < 16) (hy:0≤y∧y < 16):P x y:=by
 have:=h ⟨x.toNat,by omega⟩ ⟨y.toNat,by omega⟩;simp only [Int.toNat_of_nonneg hx.1,Int.toNat_of_nonneg hy.1] at this;exact this
theorem qII:∀ (a0:UInt8) (b1:UInt8),∃ n,qDe n a0 b1=qoj (z167 a0 b1).1 (z167 a0 b1).2:=fun a b=>⟨0,by
 unfold qDe z167;have h:=qEd (P:=fun x y=>UInt8.ofNat (Int.toNat (IntKind.wrap .u8 (bits .or .i64 (IntKind.wrap .i64 (x*2 ^ (min (Int.toNat (4:Int)) (IntKind.bits .i64)))) y)))=UInt8.ofNat (Int.toNat (x*16+y))) qNC (qeB a) (qeB b);rw [← h];cases (z175 a).2 <;> cases (z175 b).2 <;> rfl⟩
theorem qlR (s:LU) (at1:Int) (hl:s.length≤1048576) (h0:¬ at1 < 0) (h1:¬ IntKind.wrap .i64 (((List.length s:Nat):Int) - 3) < at1):∃ i:Nat,at1=i∧i+2 < s.length:=by
 rw [IntWalk.i64_in _ (by omega)] at h1;exact ⟨at1.toNat,by omega,by omega⟩
theorem qIJ:∀ (s0:LU) (at1:Int) (sign2:UInt8),(quh s0 at1 sign2=true)→∃ n,qDf n s0 at1 sign2=qjQ (z144 s0 at1 sign2).1 (z144 s0 at1 sign2).2:=fun s at1 sign h=>⟨0,by
 have hl:=qd h;unfold qDf qjR z144
 by_cases h0:at1 < 0
 ·rw [yo h0,yx (show ¬ 0≤at1 by omega)]; rfl
 by_cases h1:IntKind.wrap .i64 (((List.length s:Nat):Int) - 3) < at1
 ·have h2:¬ at1≤(s.length:Int) - 3:=by rw [IntWalk.i64_in _ (by omega)] at h1; omega
  rw [yx h0,yo h1,yx h2,Bool.and_false]; rfl
 obtain ⟨i,rfl,hi⟩:=qlR s at1 hl h0 h1;rw [yx h0,yx h1,yd,yd,qK,qfj,yo (show i < s.length by omega),yi,yc,qV,qf (by omega),
  show IntKind.wrap .i64 ((i:Int)+2)=((i+2:Nat):Int) by rw [IntWalk.i64_in _ (by omega)]; omega,qK,qK,qfj,qfj,yo (show i+1 < s.length by omega),yo hi,qV,qV,
  yo (show (i:Int)≤(s.length:Int) - 3 by omega),yi,yc]
 unfold qpt;cases he:(List.getD s i 0==sign) with
 | true=>rw [show (List.getD s i 0 != sign)=false by simp only [bne,he,Bool.not_true]]; rfl
 | false=>rw [show (List.getD s i 0 != sign)=true by simp only [bne,he,Bool.not_false]]; rfl⟩
theorem qND:∀ (s0:LU) (at1:Int) (sign2:UInt8),(qFv s0 at1 sign2=true)→∃ n,qNa n s0 at1 sign2=qkz (z73 s0 at1 sign2).1 (z73 s0 at1 sign2).2:=fun s at1 sign h=>⟨0,by
 have hl:=qd h;unfold qNa z73 z144
 by_cases h0:at1 < 0
 ·rw [yo h0,yx (show ¬ 0≤at1 by omega)]; rfl
 by_cases h1:IntKind.wrap .i64 (((List.length s:Nat):Int) - 3) < at1
 ·have h2:¬ at1≤(s.length:Int) - 3:=by rw [IntWalk.i64_in _ (by omega)] at h1; omega
  rw [yx h0,yo h1,yx h2,Bool.and_false]; rfl
 obtain ⟨i,rfl,hi⟩:=qlR s at1 hl h0 h1;rw [yx h0,yx h1,yd,yd,qK,qfj,yo (show i < s.length by omega),yi,yc,qV,qf (by omega),
  show IntKind.wrap .i64 ((i:Int)+2)=((i+2:Nat):Int) by rw [IntWalk.i64_in _ (by omega)]; omega,qK,qK,qfj,qfj,yo (show i+1 < s.length by omega),yo hi,qV,qV,
  yo (show (i:Int)≤(s.length:Int) - 3 by omega),yi,yc]
 rw [qSS,qSS];have h:=qEd (P:=fun x y=>UInt8.ofNat (Int.toNat (IntKind.wrap .u8 (IntKind.wrap .i64 ((IntKind.wrap .i64 ((16:Int)*x))+y))))=UInt8.ofNat (Int.toNat (x*16+y))) qIH (qeB (List.getD s (i+1) 0)) (qeB (List.getD s (i+2) 0));rw [h];unfold qpt z167;cases he:(List.getD s i 0==sign) with
 | true =>
  rw [show (List.getD s i 0 != sign)=false by simp only [bne,he,Bool.not_true]];cases (z175 (List.getD s (i+1) 0)).2 <;> cases (z175 (List.getD s (i+2) 0)).2 <;> rfl
 | false=>rw [show (List.getD s i 0 != sign)=true by simp only [bne,he,Bool.not_false]]; rfl⟩
def okc (c:UInt8):Bool:=(c==13)||(c==10)||(c==9)||(decide (32≤c)&&decide (c≤126))
theorem qIK:∀ (s0:LU) (suffix1:LU),(qur s0 suffix1=true)→∃ n,qDb n s0 suffix1=qsS (z166 s0 suffix1):=fun s t h=>⟨0,by
 have hl:=qd h;unfold qDb z166
 by_cases hc:t.length≤s.length
 ·have e:IntKind.wrap .i64 ((s.length:Int) - (t.length:Int))=((s.length - t.length:Nat):Int):=by rw [IntWalk.i64_in _ (by omega)]; omega
  rw [e,tn,tn,List.take_length,dT hc];simp (disch:=omega) only [dT,yc,yi];rfl
 ·rw [dF hc,dF (by omega)]; rfl⟩
theorem qfc (l:LU) (i k:Nat):(l.drop i).getD k 0=l.getD (i+k) 0:=by
 simp [List.getD,List.getElem?_drop]
theorem qIL:∀ (n0:Int),∃ n,qDt n n0=qjX (z133 n0):=fun c=>⟨0,by
 unfold qDt z133;cases (c==(2:Int)) <;> cases (c==(3:Int)) <;> cases (c==(4:Int)) <;> rfl⟩
theorem qIM:∃ n,qKr n  = qDv z161:=⟨0,rfl⟩
theorem qIN:∃ n,qKs n  = qDx z162:=⟨0,rfl⟩
theorem qNE {α β:Type} (f:α→β) (t:List α) (z:β) (i:Nat) (h:i < t.length) (d:α) :
 ((t.take i).map f++List.replicate (t.length - i) z).set i (f (t.getD i d))=(t.take (i+1)).map f++List.replicate (t.length - (i+1)) z:=by
 rw [List.set_append_right _ _ (by simp; omega)];have h1:((t.take i).map f).length=i:=by simp; omega
 rw [h1,Nat.sub_self,show t.length - i=(t.length - (i+1))+1 by omega,List.replicate_succ,List.set_cons_zero,List.take_succ_eq_append_getElem h,List.map_append,yl];simp [List.getD,h]
theorem qhm (x:UInt8):IntKind.wrap .i32 ((UInt8.toNat x:Nat):Int)=((UInt8.toNat x:Nat):Int):=IntWalk.i32_in _ (by have:=x.toNat_lt; omega)
theorem qNF:∀ (x0:UInt8),∃ n,qNe n x0=qeJ (z74 x0):=fun x=>⟨0,by
 unfold qNe z74;rw [qhm];cases (x==(164:UInt8)) <;> cases (x==(166:UInt8)) <;> cases (x==(168:UInt8)) <;> cases (x==(180:UInt8)) <;> cases (x==(184:UInt8)) <;> cases (x==(188:UInt8)) <;> cases (x==(189:UInt8)) <;> cases (x==(190:UInt8)) <;> rfl⟩
theorem qNG:∀ (x0:UInt8),∃ n,qNf n x0=qvW (z75 x0):=fun x=>⟨0,by
 unfold qNf qoF z75;rw [qhm];have hx:=x.toNat_lt
 by_cases h1:x < 128
 ·rw [dT h1]; rfl
 ·by_cases h2:159 < x
  ·rw [dF h1,dT h2]; rfl
  ·rw [dF h1,dF h2];have h3:128≤x.toNat:=by have:=UInt8.not_lt.1 h1; exact UInt8.le_iff_toNat_le.1 this
   have h4:x.toNat≤159:=by have:=UInt8.not_lt.1 h2; exact UInt8.le_iff_toNat_le.1 this
   have h5:(x - 128).toNat=x.toNat - 128:=UInt8.toNat_sub_of_le _ _ (UInt8.not_lt.1 h1);rw [h5];simp (disch:=(first | omega | (simp; omega))) only [dT,yi,yc,yd,Bool.or_false,tn];rfl⟩
theorem qkG {α β:Type} {t:List α} {dv:α} {f:α→List β} {q:α→Bool} {k0:List β→OA} {R:OA} {L:Nat→List β→Int→OA} {b:Nat} (hf:∀ x,(f x).length≤b)
 (hL:∀ (n i:Nat) (out:List β),i < t.length→out.length+b≤room→L (n+1) out (i:Int)=bif q (t.getD i dv) then L n (out++f (t.getD i dv)) ((i+1:Nat):Int) else R) (hE:∀ n out,L (n+1) out ((t.length:Nat):Int)=k0 out) :
 ∀ (d i n:Nat) (out:List β),i+d=t.length→d < n→out.length+b*d≤room→L n out (i:Int)=bif (t.drop i).all q then k0 (out++(t.drop i).flatMap f) else R
 | d,i,0,out,hi,hn,_=>by omega
 | 0,i,n+1,out,hi,hn,_=>by
  obtain rfl:i=t.length:=by omega
  rw [hE,yA (by omega)];simp
 | d+1,i,n+1,out,hi,hn,hb=>by
  have hlt:i < t.length:=by omega
  have hx:=hf (t.getD i dv);have hb':b*(d+1)=b*d+b:=by rw [Nat.mul_succ]
  have h0:0≤b*d:=Nat.zero_le _;rw [hL n i out hlt (by omega),qkG (α:=α) (β:=β) hf hL hE d (i+1) n _ (by omega) (by omega) (by rw [yn]; omega),qC (d:=dv) hlt];simp only [List.all_cons,List.flatMap_cons,yl];cases q (t.getD i dv) <;> rfl
theorem qIO:∀ (charset0:Int),∃ n,qCL n charset0=qeU (z117 charset0):=fun cs=>⟨0,by
 unfold qCL z117;cases (cs==(1:Int)) <;> cases (cs==(2:Int)) <;> cases (cs==(3:Int)) <;> cases (cs==(4:Int)) <;> cases (cs==(5:Int)) <;> rfl⟩
theorem qNH:∀ (charset0:Int),∃ n,qMU n charset0=qkq (z78 charset0):=fun cs=>⟨0,by
 unfold qMU z78 z117;cases (cs==(1:Int)) <;> cases (cs==(2:Int)) <;> cases (cs==(3:Int)) <;> cases (cs==(4:Int)) <;> cases (cs==(5:Int)) <;> rfl⟩
theorem qIP:∀ (n0:Int),∃ n,qDP n n0=qeX (z138 n0):=fun n=>⟨0,by
 unfold qDP qbg z138;generalize Int.tmod (IntKind.wrap .i64 (Int.tmod n 64+64)) 64=k;show _=qeX (bif decide (k < 26) then _ else _);cases decide (k < 26) <;> cases decide (k < 52) <;> cases decide (k < 62) <;> cases (k==62) <;> rfl⟩
theorem qlS (k0:Int→OA) (l:LI) (hl:l.length≤1048576):∀ (d i n:Nat) (m:Int),i+d=l.length→d < n →
 qkx k0 n l m (i:Nat)=k0 ((l.drop i).foldl (fun n b=>IntKind.wrap .i64 (IntKind.wrap .i64 (2*n)+b)) m)
 | d,i,0,m,hi,hn=>by omega
 | 0,i,n+1,m,hi,hn=>by
  show qey _ _ n _ _ _=_;unfold qey;rw [dF (by omega),yd,yA (by omega)];rfl
 | d+1,i,n+1,m,hi,hn=>by
  show qey _ _ n _ _ _=_;unfold qey;have hlt:i < l.length:=by omega
  rw [qC (d:=(0:Int)) hlt];simp (disch:=omega) only [dT,yc,yi,tn,qf];rw [qlS k0 l hl d (i+1) n _ (by omega) (by omega)];rfl
theorem qIQ:∀ (l0:LI),(qfE l0=true)→∃ n,qvV n l0=qDQ (z111 l0):=fun l h=>⟨l.length+1,by
 unfold qfE at h;have hl:l.length≤1048576:=by simpa using h
 unfold qvV z111;refine (qlS (qgf (l.length+1)) l hl l.length 0 (l.length+1) 0 (by omega) (by omega)).trans ?_;rw [yw];rfl⟩
theorem qNI:∀ (b0:LU) (c1:UInt8),∃ n,qSI n b0 c1=qJY (z91 b0 c1):=fun _ _=>⟨0,rfl⟩
theorem qkH {α β:Type} (f:α→β):∀ l:List α,l.flatMap (fun x=>[f x])=l.map f
 | []=>rfl
 | x :: r=>by rw [List.flatMap_cons,qkH f r]; rfl
theorem qkI {α:Type}:∀ l:List α,l.all (fun _=>true)=true
 | []=>rfl
 | _ :: r=>by rw [List.all_cons,qkI r]; rfl
theorem qwc (m:Nat) (s:LU) (hl:s.length≤1048576):∀ (d i n:Nat),i+d=s.length→d < n →
 qjY (qfU m) n ((s.take i).map (fun c:UInt8=>(c.toNat:Int))++List.replicate (s.length - i) 0) s (s.length:Nat) (i:Nat)=qsX (s.map fun c:UInt8=>(c.toNat:Int))
 | d,i,0,hi,hn=>by omega
 | 0,i,n+1,hi,hn=>by
  obtain rfl:i=s.length:=by omega
  show qej _ _ n _ _ _ _=_;unfold qej;rw [dF (by omega),Nat.sub_self,List.take_length];simp only [yd,List.replicate_zero,yG];rfl
 | d+1,i,n+1,hi,hn=>by
  show qej _ _ n _ _ _ _=_;unfold qej;have hlen:((s.take i).map (fun c:UInt8=>(c.toNat:Int))++List.replicate (s.length - i) (0:Int)).length=s.length:=by
   rw [yn,yP,yz,List.length_replicate]; omega
  rw [hlen];simp (disch:=omega) only [dT,yc,yi,tn,qf];rw [qhm,qNE (fun c:UInt8=>((UInt8.toNat c:Nat):Int)) s 0 i (by omega) 0];exact qwc m s hl d (i+1) n (by omega) (by omega)
theorem qIR:∀ (s0:LU),(qlx s0=true)→∃ n,qvI n s0=qsX (z106 s0):=fun s h=>⟨s.length+1,by
 have hl:=qd h;unfold qvI;have hr:((s.length:Nat):Int)≤(room:Int):=by unfold room; omega
 simp (disch:=omega) only [dT,yc,yi,tn];have:=qwc (s.length+1) s hl s.length 0 (s.length+1) (by omega) (by omega);exact this⟩
theorem qIS:∀ (c0:Int),∃ n,qDu n c0=qsY (z134 c0):=fun c=>⟨0,by
 unfold qDu z134;cases decide (128≤c) <;> rfl⟩
theorem qqM (m:Nat) (t:LI) (hl:t.length≤1048576):∀ (d i n:Nat),i+d=t.length→d < n →
 qjZ (qfV m) n ((t.take i).map z134++t.drop i) (t.length:Nat) (i:Nat)=qsZ (t.map z134)
 | d,i,0,hi,hn=>by omega
 | 0,i,n+1,hi,hn=>by
  obtain rfl:i=t.length:=by omega
  show qek _ _ n _ _ _=_;unfold qek;rw [dF (by omega),List.drop_length,List.take_length,yG];rfl
 | d+1,i,n+1,hi,hn=>by
  show qek _ _ n _ _ _=_;unfold qek;have hlt:i < t.length:=by omega
  have hml:((t.take i).map z134).length=i:=by rw [yP,yz]; omega
  have hlen:((t.take i).map z134++t.drop i).length=t.length:=by
   rw [yn,hml,yK]; omega
  rw [hlen];simp (disch:=omega) only [dT,yc,yi,tn,qf];have hg:((t.take i).map z134++t.drop i).getD i 0=t[i]:=by
   rw [yY,yN (by omega),hml,Nat.sub_self,List.getElem?_drop,Nat.add_zero,yO hlt]; rfl
  have hs:((t.take i).map z134++t.drop i).set i (z134 t[i])=(t.take (i+1)).map z134++t.drop (i+1):=by
   rw [List.set_append_right _ _ (by omega),hml,Nat.sub_self,List.drop_eq_getElem_cons hlt,List.set_cons_zero,List.take_succ_eq_append_getElem hlt,List.map_append,yl];rfl
  rw [hg,hs];exact qqM m t hl d (i+1) n (by omega) (by omega)
theorem qIT:∀ (s0:LU),(qul s0=true)→∃ n,qvJ n s0=qsZ (z103 s0):=fun s h=>⟨s.length+1,by
 have hl:=qd h;unfold qvJ;rw [show qlx s=true from h];have hlen:(z106 s).length=s.length:=by unfold z106; rw [yP]
 have:=qqM (s.length+1) (z106 s) (by omega) s.length 0 (s.length+1) (by omega) (by omega);have e:(z106 s).map z134=z103 s:=by
  unfold z106 z103; rw [List.map_map]; rfl
 rw [e] at this;exact this⟩
theorem qIU:∀ (x0:UInt8),∃ n,qvL n x0=qaV (z135 x0):=fun x=>⟨9,by
 have e:qvL 9 x=bif (164:UInt8)==x then qaV 8364 else bif (166:UInt8)==x then qaV 352 else bif (168:UInt8)==x then qaV 353 else bif (180:UInt8)==x then qaV 381
  else bif (184:UInt8)==x then qaV 382 else bif (188:UInt8)==x then qaV 338 else bif (189:UInt8)==x then qaV 339 else bif (190:UInt8)==x then qaV 376 else qaV (IntKind.wrap .i32 ((UInt8.toNat x:Nat):Int)):=by rfl
 rw [e,qhm];unfold z135 z74;have hc:∀ k:UInt8,(k==x)=(x==k):=fun k=>by
  cases h:x==k with
  | true=>rw [beq_iff_eq] at h; subst h; simp
  | false=>rw [yB] at h ⊢; exact fun e=>h e.symm
 simp only [hc];cases (x==(164:UInt8)) <;> cases (x==(166:UInt8)) <;> cases (x==(168:UInt8)) <;> cases (x==(180:UInt8)) <;> cases (x==(184:UInt8)) <;> cases (x==(188:UInt8)) <;> cases (x==(189:UInt8)) <;> cases (x==(190:UInt8)) <;> rfl⟩
theorem qIV:∀ (s0:LU),(quj s0=true)→∃ n,qvM n s0=qDw (z104 s0):=fun s h=>⟨s.length+1,by
 have hl:=qd h;unfold qvM;have:=qkG (t:=s) (dv:=0) (f:=fun c=>[z135 c]) (q:=fun _=>true) (b:=1) (k0:=qem (s.length+1)) (R:=none)
  (L:=fun n out i=>qka (qem (s.length+1)) n out s (s.length:Nat) i) (fun x=>yv 1) (fun n i out hi hb=>by
   show qel _ _ n _ _ _ _=_;unfold qel;have hr:out.length+([z135 (s.getD i 0)]:LI).length≤room:=hb;simp (disch:=omega) only [dT,yc,yi,tn,qf];all_goals (rw [dT hr])
   all_goals rfl) (fun n out=>by
   show qel _ _ n _ _ _ _=_;unfold qel;rw [dF (by omega)]; rfl) s.length 0 (s.length+1) [] (by omega) (by omega) (by show 0+_≤room; unfold room; omega)
 rw [yw,qkI,yc,List.nil_append,qkH] at this;exact this⟩
def qNJ (x:UInt8):Bool:=decide (x < 128)||(decide (160≤x)||((decide ((0:Int)≤((UInt8.toNat (x - (128:UInt8)):Nat):Int)))&&(decide (((UInt8.toNat (x - (128:UInt8)):Nat):Int) < (List.length z162:Nat))) &&
 ((bif ((List.getD z162 (Int.toNat ((UInt8.toNat (x - (128:UInt8)):Nat):Int)) (0:Int)) != (0:Int)) then (List.getD z162 (Int.toNat ((UInt8.toNat (x - (128:UInt8)):Nat):Int)) (0:Int)) else 65533)==z75 x)))
theorem qEe:∀ i:Fin 256,qNJ (UInt8.ofNat i.val)=true:=by decide +kernel
theorem qIW:∀ (x0:UInt8),∃ n,qDy n x0=qkb (z136 x0):=fun x=>⟨0,by
 have hm:=qce (P:=fun x=>qNJ x=true) qEe x;unfold qDy qdK z136;rw [qhm];cases h1:decide (x < (128:UInt8)) with
 | true=>unfold z75; rw [h1]; rfl
 | false =>
  cases h2:decide ((160:UInt8)≤x) with
  | true =>
   have h3:decide ((159:UInt8) < x)=true:=by
    have h2':=of_decide_eq_true h2;apply yo;rw [UInt8.le_iff_toNat_le] at h2';rw [UInt8.lt_iff_toNat_lt];exact h2'
   unfold z75; rw [h1,h3]; rfl
  | false =>
   unfold qNJ at hm;rw [h1,h2,Bool.false_or,Bool.false_or,yf,beq_iff_eq] at hm;rw [yd,yd,hm.1,yc,← hm.2];cases ((List.getD z162 (Int.toNat ((UInt8.toNat (x - (128:UInt8)):Nat):Int)) (0:Int)) != (0:Int)) <;> rfl⟩
theorem qIX:∀ (s0:LU),(quk s0=true)→∃ n,qvN n s0=qDz (z105 s0):=fun s h=>⟨s.length+1,by
 have hl:=qd h;unfold qvN;have hr:((s.length:Nat):Int)≤(room:Int):=by unfold room; omega
 have:=qkG (t:=s) (dv:=0) (f:=fun c=>[z136 c]) (q:=fun _=>true) (b:=1) (k0:=qeo (s.length+1)) (R:=none)
  (L:=fun n out i=>qkc (qeo (s.length+1)) n out s (s.length:Nat) i) (fun x=>yv 1) (fun n i out hi hb=>by
   show qen _ _ n _ _ _ _=_;unfold qen;have hr:out.length+([z136 (s.getD i 0)]:LI).length≤room:=hb;simp (disch:=omega) only [dT,yc,yi,tn,qf];all_goals (rw [dT hr])
   all_goals rfl) (fun n out=>by
   show qen _ _ n _ _ _ _=_;unfold qen;rw [dF (by omega)]; rfl) s.length 0 (s.length+1) [] (by omega) (by omega) (by show 0+_≤room; unfold room; omega)
 rw [yw,qkI,yc,List.nil_append,qkH] at this;simp (disch:=omega) only [dT,yc,yi];exact this⟩
theorem qNK:∀ (charset0:Int) (s1:LU),(qFw charset0 s1=true)→∃ n,qMF n charset0 s1=qlL (z63 charset0 s1):=fun cs s h=>⟨0,by
 have h':lenOk s=true:=h;unfold qMF z63;rw [show qul s=true from h',show quj s=true from h',show quk s=true from h',show qhT s=true from h',show qlx s=true from h'];cases (cs==(1:Int)) <;> cases (cs==(3:Int)) <;> cases (cs==(4:Int)) <;> cases (cs==(5:Int)) <;> rfl⟩
theorem qVG (a b k:Nat) (hb:b < 2 ^ k) (h:a*2 ^ k+b < 9223372036854775808):bits .or .i64 ((a*2 ^ k:Nat):Int) (b:Int)=((a*2 ^ k+b:Nat):Int):=by
 have h1:(BitVec.ofInt 64 ((a*2 ^ k:Nat):Int)).toNat=a*2 ^ k:=by rw [BitVec.toNat_ofInt]; omega
 have h2:(BitVec.ofInt 64 ((b:Nat):Int)).toNat=b:=by rw [BitVec.toNat_ofInt]; omega
 have h3:(BitVec.ofInt 64 ((a*2 ^ k:Nat):Int) ||| BitVec.ofInt 64 (b:Int)).toNat=a*2 ^ k+b:=by
  rw [BitVec.toNat_or,h1,h2];have:=Nat.shiftLeft_add_eq_or_of_lt hb a;rw [Nat.shiftLeft_eq] at this;exact this.symm
 show IntKind.wrap .i64 (((BitVec.ofInt 64 ((a*2 ^ k:Nat):Int) ||| BitVec.ofInt 64 (b:Int)).toNat:Nat):Int)=_;rw [h3,IntWalk.i64_in _ (by omega)]
theorem qEf (n k:Nat) (hn:n < 9223372036854775808) (hk:2 ^ k≤4611686018427387904):bits .and .i64 (n:Int) ((2 ^ k - 1:Nat):Int)=((n % 2 ^ k:Nat):Int):=by
 have hpos:0 < 2 ^ k:=Nat.pow_pos (by decide);have h1:(BitVec.ofInt 64 (n:Int)).toNat=n:=by rw [BitVec.toNat_ofInt]; omega
 have h2:(BitVec.ofInt 64 ((2 ^ k - 1:Nat):Int)).toNat=2 ^ k - 1:=by rw [BitVec.toNat_ofInt]; omega
 have h3:(BitVec.ofInt 64 (n:Int) &&& BitVec.ofInt 64 ((2 ^ k - 1:Nat):Int)).toNat=n % 2 ^ k:=by
  rw [BitVec.toNat_and,h1,h2,Nat.and_two_pow_sub_one_eq_mod]
 have h4:n % 2 ^ k < 2 ^ k:=Nat.mod_lt _ hpos;show IntKind.wrap .i64 (((BitVec.ofInt 64 (n:Int) &&& BitVec.ofInt 64 ((2 ^ k - 1:Nat):Int)).toNat:Nat):Int)=_;rw [h3,IntWalk.i64_in _ (by omega)]
theorem fdivN (n k:Nat):Int.fdiv (n:Int) ((k:Nat):Int)=((n / k:Nat):Int):=by
 rw [Int.fdiv_eq_ediv_of_nonneg _ (Int.natCast_nonneg k),Int.natCast_ediv]
theorem qIY:∀ (c0:UInt8),∃ n,qKi n c0=qsV (z121 c0).1 (z121 c0).2:=fun c=>⟨0,by
 show qsV (bif decide (Lib.indexByte b64D c < 0) then 0 else Lib.indexByte b64D c) (decide (0≤Lib.indexByte b64D c))=_;unfold z121
 by_cases h:Lib.indexByte b64D c < 0
 ·rw [dT h,dF (by omega)]; rfl
 ·rw [dF h,dT (by omega)]; rfl⟩
theorem qIZ:∀ i:Fin 256,(decide (0≤(z121 (UInt8.ofNat i.val)).1)&&decide ((z121 (UInt8.ofNat i.val)).1 < 64))=true:=by decide +kernel
theorem qEg (c:UInt8):∃ n:Nat,(z121 c).1=(n:Int)∧n < 64:=by
 have h:=qce (P:=fun c=>(decide (0≤(z121 c).1)&&decide ((z121 c).1 < 64))=true) qIZ c;simp only [yf,ym] at h;exact ⟨(z121 c).1.toNat,by omega,by omega⟩
theorem u8_of (k:Nat):UInt8.ofNat (Int.toNat (IntKind.wrap .u8 (k:Int)))=UInt8.ofNat k:=by
 have:IntKind.wrap .u8 (k:Int)=((k % 256:Nat):Int):=by
  rw [IntKind.wrap_u8]; omega
 rw [this,Int.toNat_natCast];apply UInt8.toNat_inj.1;show (k % 256) % 256=k % 256;omega
def decT {R:Type} (K:LU→Int→Int→R) (N:R) (out:LU) (held many v:Int):R :=
 bif (decide ((8:Int)≤(IntKind.wrap .i64 (many+(6:Int))))) then
  bif (decide ((0:Int)≤(IntKind.wrap .i64 ((IntKind.wrap .i64 (many+(6:Int))) - (8:Int))))) then
   bif (decide (List.length out+List.length ([(UInt8.ofNat (Int.toNat (IntKind.wrap .u8 (Int.fdiv (bits .or .i64 (IntKind.wrap .i64 (held*2 ^ (min (Int.toNat (6:Int)) (IntKind.bits .i64)))) v) (2 ^ (min (Int.toNat (IntKind.wrap .i64 ((IntKind.wrap .i64 (many+(6:Int))) - (8:Int)))) (IntKind.bits .i64)))))))]:LU)≤room)) then
    bif (decide ((0:Int)≤(IntKind.wrap .i64 ((IntKind.wrap .i64 (many+(6:Int))) - (8:Int))))) then
     K (out++([(UInt8.ofNat (Int.toNat (IntKind.wrap .u8 (Int.fdiv (bits .or .i64 (IntKind.wrap .i64 (held*2 ^ (min (Int.toNat (6:Int)) (IntKind.bits .i64)))) v) (2 ^ (min (Int.toNat (IntKind.wrap .i64 ((IntKind.wrap .i64 (many+(6:Int))) - (8:Int)))) (IntKind.bits .i64)))))))]:LU)) (bits .and .i64 (bits .or .i64 (IntKind.wrap .i64 (held*2 ^ (min (Int.toNat (6:Int)) (IntKind.bits .i64)))) v) (IntKind.wrap .i64 ((IntKind.wrap .i64 ((1:Int)*2 ^ (min (Int.toNat (IntKind.wrap .i64 ((IntKind.wrap .i64 (many+(6:Int))) - (8:Int)))) (IntKind.bits .i64)))) - (1:Int)))) (IntKind.wrap .i64 ((IntKind.wrap .i64 (many+(6:Int))) - (8:Int)))
    else N
   else N
  else N
 else
  K out (bits .or .i64 (IntKind.wrap .i64 (held*2 ^ (min (Int.toNat (6:Int)) (IntKind.bits .i64)))) v) (IntKind.wrap .i64 (many+(6:Int)))
theorem held6 (h n:Nat) (hh:h < 64) (hn:n < 64):bits .or .i64 (IntKind.wrap .i64 ((h:Int)*2 ^ (min (Int.toNat (6:Int)) (IntKind.bits .i64)))) (n:Int)=((h*64+n:Nat):Int):=by
 have e:IntKind.wrap .i64 ((h:Int)*2 ^ (min (Int.toNat (6:Int)) (IntKind.bits .i64)))=((h*2 ^ 6:Nat):Int):=by
  show IntKind.wrap .i64 ((h:Int)*64)=_;rw [IntWalk.i64_in _ (by omega)]; omega
 rw [e,qVG h n 6 (by omega) (by omega)]
theorem qKF {R:Type} (K:LU→Int→Int→R) (N:R) (out:LU) (h m n:Nat) (hm:m=0∨m=2∨m=4∨m=6) (hh:h < 2 ^ m) (hn:n < 64) (ho:out.length+1≤room) :
 decT K N out (h:Int) (m:Int) (n:Int)=K (out++decO m h n) (decH m h n:Nat) (decM m:Nat):=by
 have hh6:h < 64:=by rcases hm with rfl | rfl | rfl | rfl <;> omega
 unfold decT;rw [held6 h n hh6 hn];rcases hm with rfl | rfl | rfl | rfl
 ·obtain rfl:h=0:=by omega
  rw [show decide ((8:Int)≤IntKind.wrap .i64 (((0:Nat):Int)+6))=false from rfl,yd,Nat.zero_mul,yE];show K out _ 6=K (out++[]) _ 6;rw [yG]; rfl
 ·rw [show decide ((8:Int)≤IntKind.wrap .i64 (((2:Nat):Int)+6))=true from rfl,yc,show IntKind.wrap .i64 (IntKind.wrap .i64 (((2:Nat):Int)+6) - 8)=((0:Nat):Int) from rfl,dT (by omega),yc,yc];have e1:Int.fdiv ((h*64+n:Nat):Int) (2 ^ (min (Int.toNat ((0:Nat):Int)) (IntKind.bits .i64)))=(((h*64+n) / 2 ^ 0:Nat):Int):=fdivN _ 1;have e2:IntKind.wrap .i64 (IntKind.wrap .i64 ((1:Int)*2 ^ (min (Int.toNat ((0:Nat):Int)) (IntKind.bits .i64))) - 1)=((2 ^ 0 - 1:Nat):Int):=rfl;rw [e1,e2,u8_of,qEf _ 0 (by omega) (by decide),dT (show out.length+[_].length≤room from ho),yc];rfl
 ·rw [show decide ((8:Int)≤IntKind.wrap .i64 (((4:Nat):Int)+6))=true from rfl,yc,show IntKind.wrap .i64 (IntKind.wrap .i64 (((4:Nat):Int)+6) - 8)=((2:Nat):Int) from rfl,dT (by omega),yc,yc];have e1:Int.fdiv ((h*64+n:Nat):Int) (2 ^ (min (Int.toNat ((2:Nat):Int)) (IntKind.bits .i64)))=(((h*64+n) / 2 ^ 2:Nat):Int):=fdivN _ 4;have e2:IntKind.wrap .i64 (IntKind.wrap .i64 ((1:Int)*2 ^ (min (Int.toNat ((2:Nat):Int)) (IntKind.bits .i64))) - 1)=((2 ^ 2 - 1:Nat):Int):=rfl;rw [e1,e2,u8_of,qEf _ 2 (by omega) (by decide),dT (show out.length+[_].length≤room from ho),yc];rfl
 ·rw [show decide ((8:Int)≤IntKind.wrap .i64 (((6:Nat):Int)+6))=true from rfl,yc,show IntKind.wrap .i64 (IntKind.wrap .i64 (((6:Nat):Int)+6) - 8)=((4:Nat):Int) from rfl,dT (by omega),yc,yc];have e1:Int.fdiv ((h*64+n:Nat):Int) (2 ^ (min (Int.toNat ((4:Nat):Int)) (IntKind.bits .i64)))=(((h*64+n) / 2 ^ 4:Nat):Int):=fdivN _ 16;have e2:IntKind.wrap .i64 (IntKind.wrap .i64 ((1:Int)*2 ^ (min (Int.toNat ((4:Nat):Int)) (IntKind.bits .i64))) - 1)=((2 ^ 4 - 1:Nat):Int):=rfl;rw [e1,e2,u8_of,qEf _ 4 (by omega) (by decide),dT (show out.length+[_].length≤room from ho),yc];rfl
theorem qEh (m h n:Nat):(decO m h n).length≤1:=by
 unfold decO;cases m==0
 ·exact yv 1
 ·exact Nat.zero_le 1
theorem qwd {s:LU} {i:Nat} (h:i < s.length):s.take i++[s.getD i 0]=s.take (i+1):=by
 rw [List.take_succ_eq_append_getElem h,yY,yO h]; rfl
theorem qab {s:LU} {i:Nat} (h:i < s.length):s.drop i=s.getD i 0 :: s.drop (i+1):=by
 rw [List.drop_eq_getElem_cons h,yY,yO h]; rfl
theorem qqN (j:Nat) (s t:LU) (hl:t.length≤1048576):∀ (d i n:Nat) (out:LU) (h m:Nat),i+d=t.length→d < n→DecSt (t.take i) out m h→out.length≤i →
 qld qch (qcX j) n s out (h:Int) (m:Int) t (t.length:Nat) (i:Nat) =
  bif (t.drop i).all isB64 then (bif ((Int.tmod ((List.length s:Nat):Int) (4:Int)) != (0:Int)) then qch [] 4 else bif !(z72 (bitsB t)).2 then qch [] 3 else qch (z72 (bitsB t)).1 0) else qch [] 3
 | d,i,0,out,h,m,hi,hn,_,_=>by omega
 | 0,i,n+1,out,h,m,hi,hn,e,ho=>by
  obtain rfl:i=t.length:=by omega
  show qgG _ _ _ n _ _ _ _ _ _ _=_;unfold qgG qaz qbv;rw [dF (by omega),yd,List.drop_length];rw [List.take_length] at e;obtain ⟨e1,e2,e3⟩:=e.octets;rw [e1,e3,qwY m h e.cases e.lt];unfold qcX;show _=(bif ((Int.tmod ((List.length s:Nat):Int) (4:Int)) != (0:Int)) then _ else _);cases ((Int.tmod ((List.length s:Nat):Int) (4:Int)) != (0:Int))
  ·rw [yd,yd]; rfl
  ·rfl
 | d+1,i,n+1,out,h,m,hi,hn,e,ho=>by
  show qgG _ _ _ n _ _ _ _ _ _ _=_;unfold qgG qaz qbv;have hlt:i < t.length:=by omega
  rw [qab hlt,List.all_cons];simp (disch:=omega) only [dT,yc,yi,tn];unfold isB64;cases hv:(z121 (t.getD i 0)).2 with
  | false=>rfl
  | true =>
   obtain ⟨v,hv1,hv2⟩:=qEg (t.getD i 0);rw [Bool.not_true,yd,y5,hv1,qf (by omega)];have hs:=qKF (fun o h m=>qld qch (qcX j) n s o h m t (t.length:Nat) ((i+1:Nat):Int)) none out h m v e.cases e.lt hv2 (by unfold room; omega);refine (show _=decT (fun o h m=>qld qch (qcX j) n s o h m t (t.length:Nat) ((i+1:Nat):Int)) none out h m v from rfl).trans (hs.trans ?_);have e2:=e.step (t.getD i 0) v hv1 hv2;rw [qwd hlt] at e2;have hd:=qEh m h v;exact qqN j s t hl d (i+1) n _ _ _ (by omega) (by omega) e2 (by rw [yn]; omega)
theorem qEi (s:LU):(bodyB s).length≤s.length:=by
 unfold bodyB;cases s.getLast? == some 61
 ·simp only [yd];cases (s.getLast? == some 61&&s.length != s.length)
  ·exact yv _
  ·rw [yc,List.length_dropLast]; omega
 ·simp only [yc];cases (s.dropLast.getLast? == some 61&&s.dropLast.length != s.length)
  ·rw [yd,List.length_dropLast]; omega
  ·rw [yc,List.length_dropLast,List.length_dropLast]; omega
theorem tmod4 (n:Nat):((Int.tmod (n:Int) 4) != (0:Int))=(n % 4 != 0):=by
 have:Int.tmod (n:Int) 4=((n % 4:Nat):Int):=rfl;rw [this];cases h:n % 4 != 0 with
 | true =>
  rw [bne_iff_ne] at h ⊢; omega
 | false =>
  rw [bne_eq_false_iff_eq] at h ⊢; omega
theorem qNL:∀ (s0:LU),(qFB s0=true)→∃ n,qHT n s0=qch (z89 s0).1 (z89 s0).2:=fun s h=>⟨s.length+1,by
 have hl:=qd h;have hb:=qEi s;unfold qHT;rw [show qum s=true from h,yi,yc];have:=qqN (s.length+1) s (bodyB s) (by omega) (bodyB s).length 0 (s.length+1) [] 0 0 (by omega) (by omega) DecSt.nil (yv 0);refine (show _=qld qch (qcX (s.length+1)) (s.length+1) s [] ((0:Nat):Int) ((0:Nat):Int) (bodyB s) ((bodyB s).length:Nat) ((0:Nat):Int) from rfl).trans (this.trans ?_);rw [yw,tmod4];unfold z89;cases (bodyB s).all isB64
 ·rfl
 ·cases (s.length % 4 != 0)
  ·cases (z72 (bitsB (bodyB s))).2 <;> rfl
  ·rfl⟩
theorem qNM:∀ (s0:LU),(qFD s0=true)→∃ n,qMx n s0=qKj (z54 s0):=fun s h=>⟨0,by
 unfold qMx;rw [show qFB s=true from h]; rfl⟩
theorem qJa:∀ (s0:LU) (suffix1:LU),(qjj s0 suffix1=true)→∃ n,qDc n s0 suffix1=qsT (z143 s0 suffix1):=fun s t h=>⟨0,by
 have hl:=qd h;unfold qDc z143;rw [show qur s t=true from h,yi,yc];cases hs:z166 s t with
 | false=>rfl
 | true =>
  have hle:t.length≤s.length:=by
   unfold z166 at hs
   by_cases h:t.length≤s.length
   ·exact h
   ·rw [yx h] at hs; cases hs
  rw [yc,yc,show IntKind.wrap .i64 (((s.length:Nat):Int) - ((t.length:Nat):Int))=((s.length - t.length:Nat):Int) by rw [IntWalk.i64_in _ (by omega)]; omega];simp (disch:=omega) only [dT,yc,yi,tn];rfl⟩
theorem qoJ (s:LU):z143 s [61]=bif s.getLast? == some 61 then s.dropLast else s:=by
 unfold z143 z166;match s with
 | []=>rfl
 | x :: r =>
  have hle:([61]:LU).length≤(x :: r).length:=by simp
  have hx:(x :: r)=(x :: r).dropLast++[(x :: r).getLast (by simp)]:=(List.dropLast_concat_getLast (by simp)).symm;generalize (x :: r).getLast (by simp)=y at hx;generalize (x :: r).dropLast=d at hx;rw [hx];have h1:(d++[y]).length - ([61]:LU).length=d.length:=by simp
  rw [h1,List.drop_left,List.take_left,yo (by simp),yc];have h2:(d++[y]).getLast? = some y:=by simp
  have h3:(d++[y]).dropLast=d:=by simp
  rw [h2]
  by_cases hy:y=61
  ·subst hy; rfl
  ·have e1:(([y]:LU)==[61])=false:=by simpa using hy
   have e2:((some y:Option UInt8)==some 61)=false:=by simpa using hy
   rw [e1,e2]
theorem qJb:∀ (s0:LU),(qum s0=true)→∃ n,qvE n s0=qsU (z120 s0):=fun s h=>⟨3,by
 have h2:qjj (z143 s [61]) [61]=true:=by
  have hl:=qd h;refine qi ?_;rw [qoJ];cases s.getLast? == some 61
  ·exact hl
  ·rw [yc,List.length_dropLast]; omega
 have e:qvE 3 s=bif qjj s [61]&&true then (bif qjj (z143 s [61]) [61]&&true then qsU (z143 (z143 s [61]) [61]) else none) else none:=rfl
 rw [e,h2,show qjj s [61]=true from h,yi,yc,yc];congr 1;rw [qoJ (z143 s [61]),qoJ s];show _=bodyB s;unfold bodyB;cases hg:s.getLast? == some 61 with
 | false =>
  simp only [yd];rw [hg]; rfl
 | true =>
  simp only [yc];have hne:s≠[]:=by rintro rfl; cases hg
  have hlen:(s.dropLast.length != s.length)=true:=by
   have:=List.length_pos_iff.2 hne;rw [bne_iff_ne,List.length_dropLast]; omega
  rw [hlen,yi]⟩
theorem qNN:∀ i:Fin 256,z36 (UInt8.ofNat i.val) 2=blank (UInt8.ofNat i.val):=by decide +kernel
theorem qNO (c:UInt8):z36 c 2=blank c:=qNs (P:=fun c=>z36 c 2=blank c) qNN c
theorem qST (k2:LU→Int→Int→OA) (s:LU) (hl:s.length≤1048576) (a:Nat):∀ (d b n:Nat),a+d=b→b≤s.length→d < n →
 qgd k2 n s (a:Nat) (b:Nat)=k2 s (a:Nat) ((a+(dropR blank ((s.take b).drop a)).length:Nat):Int)
 | d,b,0,hb,hbl,hn=>by omega
 | 0,b,n+1,hb,hbl,hn=>by
  show qev k2 (qgd k2 n) n _ _ _=_;unfold qev;have hz:(s.take b).drop a=[]:=yA (by simp; omega);rw [dF (by omega),yd,hz];congr 1;simp [dropR];omega
 | d+1,b,n+1,hb,hbl,hn=>by
  show qev k2 (qgd k2 n) n _ _ _=_;unfold qev;have hlt:a < b:=by omega
  have ih:=qST k2 s hl a d (b - 1) n (by omega) (by omega) (by omega);have hsn:(s.take b).drop a=(s.take (b - 1)).drop a++[s.getD (b - 1) 0]:=by
   have h1:s.take b=s.take (b - 1)++[s.getD (b - 1) 0]:=by
    conv=>lhs; rw [show b=b - 1+1 by omega]
    rw [List.take_add_one];simp [List.getD,show b - 1 < s.length by omega]
   rw [h1,List.drop_append_of_le_length (by simp; omega)]
  have hc:((b:Nat):Int) - 1=((b - 1:Nat):Int):=by omega
  simp (disch:=omega) only [dT,yc,yi,wr,hc,tn,hsn,qqI];rw [show z79 (s.getD (b - 1) 0) 2=blank (s.getD (b - 1) 0) from qNO _];cases blank (s.getD (b - 1) 0) with
  | true=>exact ih
  | false =>
   rw [yd,yd];congr 1;simp;omega
theorem qSU (k0:LU→Int→Int→OA) (s:LU) (hl:s.length≤1048576):∀ (d a n:Nat),a+d=s.length→d < n →
 qgc k0 n s (a:Nat) (s.length:Nat)=k0 s ((s.length - ((s.drop a).dropWhile blank).length:Nat):Int) (s.length:Nat)
 | d,a,0,hb,hn=>by omega
 | 0,a,n+1,hb,hn=>by
  show qeu k0 (qgc k0 n) n _ _ _=_;unfold qeu;rw [dF (by omega),yd,yA (by omega)];congr 1;simp;omega
 | d+1,a,n+1,hb,hn=>by
  show qeu k0 (qgc k0 n) n _ _ _=_;unfold qeu;have hlt:a < s.length:=by omega
  have ih:=qSU k0 s hl d (a+1) n (by omega) (by omega);rw [qC (d:=(0:UInt8)) hlt,List.dropWhile_cons];simp (disch:=omega) only [dT,yc,yi,qf,tn];rw [show z79 (s.getD a 0) 2=blank (s.getD a 0) from qNO _];cases hbk:blank (s.getD a 0) with
  | true=>rw [yc,ih]; rfl
  | false =>
   rw [yd];congr 1;simp;omega
theorem qat (p:UInt8→Bool):∀ s:LU,s.drop (s.length - (s.dropWhile p).length)=s.dropWhile p
 | []=>rfl
 | c :: s=>by
  rw [List.dropWhile_cons];cases p c with
  | true =>
   have:=qaY p s;simp only [if_true,yg];rw [show s.length+1 - (s.dropWhile p).length=s.length - (s.dropWhile p).length+1 by omega,List.drop_succ_cons];exact qat p s
  | false=>simp
theorem qJc (p:UInt8→Bool) (s:LU):s.take (dropR p s).length=dropR p s:=by
 have h:=qat p s.reverse;unfold dropR;have hle:=qaY p s.reverse;rw [List.length_reverse] at hle;conv=>rhs; rw [← h]
 rw [List.length_reverse,List.length_reverse,List.reverse_drop,List.reverse_reverse,List.length_reverse];congr 1;omega
theorem qJd:∀ (s0:LU),(qwv s0=true)→∃ n,qvS n s0=qDO (z113 s0):=fun s h=>⟨s.length+1,by
 have hl:=qd h;unfold qvS;refine (qSU (qdf (s.length+1)) s hl s.length 0 (s.length+1) (by omega) (by omega)).trans ?_;rw [yw];have hle:=qaY blank s;unfold qdf;refine (qST (qew (s.length+1)) s hl (s.length - (s.dropWhile blank).length) (s.dropWhile blank).length s.length (s.length+1) (by omega) (by omega) (by omega)).trans ?_;rw [List.take_length,qat,qoI];have hle2:=qtn blank (s.dropWhile blank);rw [qoI] at hle2;unfold qew;simp (disch:=omega) only [dT,yc,yi,tn];have e:List.drop (s.length - (s.dropWhile blank).length) (List.take (s.length - (s.dropWhile blank).length+(qfe blank s).length) s)=qfe blank s:=by
  rw [List.drop_take,show s.length - (s.dropWhile blank).length+(qfe blank s).length - (s.length - (s.dropWhile blank).length)=(qfe blank s).length by omega,qat];rw [← qoI];exact qJc blank _
 rw [e];rfl⟩
theorem qkJ (l:LU) (i:Nat):z144 l (i:Int) 61=z144 (l.drop i) 0 61:=by
 unfold z144
 by_cases h:i+3≤l.length
 ·have e1:decide ((i:Int)≤(l.length:Int) - 3)=true:=dT (by omega);have e2:decide ((0:Int)≤((l.drop i).length:Int) - 3)=true:=dT (by rw [yK]; omega);rw [e1,e2,dT (show (0:Int)≤(i:Int) by omega),tn];simp only [yi,yc];show qpt l i 61=qpt (l.drop i) 0 61;unfold qpt;rw [qfc,qfc,qfc];rfl
 ·have e1:decide ((i:Int)≤(l.length:Int) - 3)=false:=dF (by omega);have e2:decide ((0:Int)≤((l.drop i).length:Int) - 3)=false:=dF (by rw [yK]; omega);rw [e1,e2];simp
theorem qts:∀ (k:Nat) (l:LU),qwS k l=qwS 0 (l.drop k)
 | 0,l=>rfl
 | k+1,[]=>rfl
 | k+1,x :: r=>by rw [show qwS (k+1) (x :: r)=qwS k r from rfl,qts k r]; rfl
theorem qkK:∀ (s:LU) (k:Nat),(qwS k s).2≤s.length
 | [],k=>by cases k <;> exact Nat.zero_le _
 | x :: r,k+1=>by
  have:=qkK r k;show (qwS k r).2≤r.length+1; omega
 | x :: r,0=>by
  show (bif _ then _ else _:LU×Nat).2≤r.length+1;cases (z144 (x :: r) 0 61).2
  ·have:=qkK r 0;show (qwS 0 r).2+(bif x==61 then 1 else 0)≤_;cases x==61 <;> simp only [yc,yd] <;> omega
  ·have:=qkK r 2;show (qwS 2 r).2≤_; omega
theorem qqO (m:Nat) (s:LU) (hl:s.length≤1048576):∀ (n i:Nat) (out:LU) (k:Nat),s.length - i < n→out.length+(qwS 0 (s.drop i)).1.length≤1048576→k+(qwS 0 (s.drop i)).2≤1048576 →
 qjT (qfQ m) n s out (k:Int) (i:Int)=qjS (out++(qwS 0 (s.drop i)).1) ((k+(qwS 0 (s.drop i)).2:Nat):Int)
 | 0,i,out,k,hn,_,_=>by omega
 | n+1,i,out,k,hn,ho,hk=>by
  show qit _ _ n _ _ _ _=_;unfold qit qax
  by_cases hlt:i < s.length
  ·have hst:qwS 0 (s.drop i)=bif (z144 s (i:Int) 61).2 then ((z144 s (i:Int) 61).1 :: (qwS 0 (s.drop (i+3))).1,(qwS 0 (s.drop (i+3))).2)
    else ((bif s.getD i 0==95 then 32 else s.getD i 0) :: (qwS 0 (s.drop (i+1))).1,(qwS 0 (s.drop (i+1))).2+(bif s.getD i 0==61 then 1 else 0)):=by
    rw [qkJ,qab hlt];show (bif (z144 (s.getD i 0 :: s.drop (i+1)) 0 61).2 then _ else _)=_;rw [qts 2,List.drop_drop,show i+1+2=i+3 by omega]
   have hno:∀ x,s.getD i 0=x→(x==61)=false→(z144 s (i:Int) 61).2=false:=fun x hx h=>by
    rw [qkJ,qab hlt,hx];exact qLL h
   have hok:quh s (i:Int) 61=true:=qi hl;simp (disch:=omega) only [dT,yc,yi,tn];have hroom:∀ y:UInt8,out.length+1≤1048576→out.length+([y]:LU).length≤room:=fun y hy=>by show out.length+1≤room; unfold room; omega
   cases h95:s.getD i 0==95 with
   | true =>
    have hx:=beq_iff_eq.1 h95;have h61:(s.getD i 0==61)=false:=by rw [hx]; rfl
    rw [hno 95 hx (by decide),yd,h95,h61,yc,yd,Nat.add_zero] at hst;rw [hst] at ho hk ⊢;simp only [yg] at ho hk;rw [yc,dT (hroom 32 (by omega)),yc,qf (by omega),qqO m s hl n (i+1) _ k (by omega) (by rw [yn]; show out.length+1+_≤_; omega) hk,yl];rfl
   | false =>
    cases h61:s.getD i 0==61 with
    | true =>
     rw [yd,yc,hok,yc];cases ht:(z144 s (i:Int) 61).2 with
     | true =>
      rw [ht,yc] at hst;rw [hst] at ho hk ⊢;simp only [yg] at ho hk;rw [yc,dT (hroom _ (by omega)),yc,show IntKind.wrap .i64 ((i:Int)+3)=((i+3:Nat):Int) by rw [IntWalk.i64_in _ (by omega)]; omega,
       qqO m s hl n (i+3) _ k (by omega) (by rw [yn]; show out.length+1+_≤_; omega) hk,yl]
      rfl
     | false =>
      rw [ht,h95,h61,yd,yd,yc] at hst;rw [hst] at ho hk ⊢;simp only [yg] at ho hk;rw [yd,dT (hroom _ (by omega)),yc,qf (by omega),qf (by omega),
       qqO m s hl n (i+1) _ (k+1) (by omega) (by rw [yn]; show out.length+1+_≤_; omega) (by omega),yl]
      rw [show k+1+(qwS 0 (s.drop (i+1))).2=k+((qwS 0 (s.drop (i+1))).2+1) by omega];rfl
    | false =>
     rw [hno _ rfl h61,h95,h61,yd,yd,yd,Nat.add_zero] at hst;rw [hst] at ho hk ⊢;simp only [yg] at ho hk;rw [yd,yd,dT (hroom _ (by omega)),yc,qf (by omega),qqO m s hl n (i+1) _ k (by omega) (by rw [yn]; show out.length+1+_≤_; omega) hk,yl];rfl
  ·rw [dF (by omega),yd,yA (by omega)];show qjS out (k:Int)=qjS (out++[]) _;rw [yG]; rfl
theorem qJe:∀ (s0:LU),(qly s0=true)→∃ n,qDg n s0=qjS (z124 s0).1 (z124 s0).2:=fun s h=>⟨s.length+1,by
 have hl:=qd h;have h1:=qji s 0;have h2:=qkK s 0;have:=qqO (s.length+1) s hl (s.length+1) 0 [] 0 (by omega) (by rw [yw]; show 0+_≤_; omega) (by rw [yw]; omega);rw [yw,List.nil_append,yE] at this;exact this⟩
theorem qJf:∀ (s0:LU),(quq s0=true)→∃ n,qDE n s0=qDD (z108 s0):=fun s h=>⟨0,by
 unfold qDE;rw [show qly s=true from h]; rfl⟩
theorem qNP:∀ (s0:LU),(qFG s0=true)→∃ n,qMy n s0=qKk (z92 s0):=fun s h=>⟨0,by
 unfold qMy;rw [show qly s=true from h]; rfl⟩
theorem qNQ:∀ (s0:LU),(qFH s0=true)→∃ n,qMz n s0=qqv (z55 s0):=fun s h=>⟨0,by
 unfold qMz z55;have hi:decide ((0:Int)≤z91 s 63)=s.contains 63:=by
  have:=qVE s 63
  by_cases h:(0:Int)≤Lib.indexByte s 63
  ·rw [dF (by omega)] at this;show decide ((0:Int)≤Lib.indexByte s 63)=_;rw [dT h];cases hc:s.contains 63 with
   | true=>rfl
   | false=>rw [hc] at this; cases this
  ·rw [dT (by omega)] at this;show decide ((0:Int)≤Lib.indexByte s 63)=_;rw [dF h];cases hc:s.contains 63 with
   | false=>rfl
   | true=>rw [hc] at this; cases this
 rw [show qyU s 4=true from h,hi,show qFG s=true from h,show z90 s 4=s.all (fun c=>z36 c 4) from rfl];have hs:decide ((0:Int) < z92 s)=decide (0 < (qwS 0 s).2):=by
  show decide ((0:Int) < ((qwS 0 s).2:Int))=_
  by_cases h:0 < (qwS 0 s).2
  ·rw [dT (by omega),yo h]
  ·rw [dF (by omega),yx h]
 rw [hs];cases (s.all fun c=>z36 c 4) <;> cases s.contains 63 <;> cases decide (0 < (qwS 0 s).2) <;> rfl⟩
theorem qNR:∃ n,qMr n  = qKg (z86 ):=⟨10,by kernel_rfl⟩
theorem qwe (k:LU):∀ l:List (LU×Int),@findM .str (.int .i64) k l=qkY k l
 | []=>rfl
 | p :: l=>by
  show (bif k==p.1 then some p.2 else @findM .str (.int .i64) k l)=_;rw [qwe k l]; rfl
theorem qeK (c:UInt8):∀ s:LU,(bif decide ((0:Int)≤Lib.indexByte s c) then s.take (Lib.indexByte s c).toNat else s)=s.takeWhile fun x=>x != c
 | []=>rfl
 | x :: s=>by
  have ih:=qeK c s;have hg:=Lib.indexByte_ge s c;rw [qEa,List.takeWhile_cons]
  by_cases hx:x=c
  ·subst hx;simp
  ·have h1:(x==c)=false:=beq_eq_false_iff_ne.2 hx;have h2:(x != c)=true:=by rw [bne,h1]; rfl
   rw [h1,h2];simp only [yq,if_false,if_true];rw [← ih]
   by_cases h3:Lib.indexByte s c = -1
   ·rw [h3]; rfl
   ·have h4:(Lib.indexByte s c == -1)=false:=by simpa using h3
    rw [h4];simp only [yq,if_false];rw [dT (by omega),dT (by omega),yc,yc,show (Lib.indexByte s c+1).toNat=(Lib.indexByte s c).toNat+1 by omega,List.take_succ_cons]
theorem qNS:∀ (s0:LU),(qFz s0=true)→∃ n,qMs n s0=qCX (z88 s0):=fun s h=>⟨0,by
 have hl:=qd h;have ht:=qeK 42 s;have hlt:=ib_lt s 42;unfold qMs z88;rw [← ht]
 by_cases hi:(0:Int)≤Lib.indexByte s 42
 ·rw [show decide ((0:Int)≤z91 s 42)=true from dT hi,dT hi,yc,yc];rw [show z91 s 42=Lib.indexByte s 42 from rfl,dT (show (0:Int)≤((0:Nat):Int) by omega),dT (show ((0:Nat):Int)≤Lib.indexByte s 42 by omega),dT (show Lib.indexByte s 42≤((s.length:Nat):Int) by omega)];have hk:qmf (List.drop (Int.toNat ((0:Nat):Int)) (List.take (Int.toNat (Lib.indexByte s 42)) s))=true:=qi (by rw [tn,yw,yz]; omega);rw [hk];rfl
 ·rw [show decide ((0:Int)≤z91 s 42)=false from dF hi,dF hi,yd,yd,show qmf s=true from h];rfl⟩
theorem qKG (s:LU):(z88 s).length≤s.length:=by
 unfold z88 z119;exact yL (qvY _ _) (qcd _ _)
theorem qNT:∀ (s0:LU),(qxb s0=true)→∃ n,qMt n s0=qCY (z53 s0).1 (z53 s0).2:=fun s h=>⟨0,by
 have hl:=qd h;have hb:=qKG s;unfold qMt z53;rw [show qFz s=true from h,show qyT (z88 s)=true from qi (by omega),qwe];cases qkY (z87 (z88 s)) z86 <;> rfl⟩
theorem qNU:∀ (w0:LU×(Int×(LU×Unit))),(qxg w0=true)→∃ n,qMu n w0=qCZ (z52 w0):=fun w h=>⟨0,by
 unfold qMu z52 csOf;rw [show qxb w.1=true from h];cases ((z53 w.1).2 != 0) <;> rfl⟩
theorem qNV:∀ (w0:LU×(Int×(LU×Unit))),(qFO w0=true)→∃ n,qMG n w0=qDF (z64 w0):=fun w h=>⟨0,by
 unfold qMG z64 octOf;rw [show qup w.2.2.1=true from h,show quq w.2.2.1=true from h];cases (w.2.1==1) <;> rfl⟩
theorem qEj {σ:Type} (sp:Bool×Bool×σ) (x:σ) (R N:σ→OA) (E:σ→Bool×σ) (hN:∀ y,(E y).1=true→N y=R (E y).2) (h:(bif sp.1 then bif sp.2.1 then E sp.2.2 else (true,sp.2.2) else (false,x)).1=true) :
 (bif sp.1 then bif (!sp.2.1) then R sp.2.2 else N sp.2.2 else none)=R (bif sp.1 then bif sp.2.1 then E sp.2.2 else (true,sp.2.2) else (false,x)).2:=by
 obtain ⟨a,b,y⟩:=sp;cases a with
 | false=>cases h
 | true =>
  cases b with
  | false=>rfl
  | true=>exact hN y h
theorem qwf (V:Sigma Inv) (j:Nat) (s s29:LU) (hl:s.length≤1048576):∀ (d i n:Nat) (x:Den V.1),i+d=s.length→d < n→(eachB (fun x a0 a1=>V.2.spec x [⟨.byte,a0⟩,⟨(.int .i64),a1⟩]) x (s.drop i)).1=true →
 qfW V (qbU V) (qda V j) n s (s.length:Nat) (i:Nat) x s29=qbU V (eachB (fun x a0 a1=>V.2.spec x [⟨.byte,a0⟩,⟨(.int .i64),a1⟩]) x (s.drop i)).2 s29
 | d,i,0,x,hi,hn,_=>by omega
 | 0,i,n+1,x,hi,hn,h=>by
  obtain rfl:i=s.length:=by omega
  show qep V _ _ _ n _ _ _ _ _=_;unfold qep qx;rw [dF (by omega),yd,List.drop_length];rfl
 | d+1,i,n+1,x,hi,hn,h=>by
  show qep V _ _ (qfW V (qbU V) (qda V j) n) n _ _ _ _ _=_;unfold qep qx;have hlt:i < s.length:=by omega
  have e:eachB (fun x a0 a1=>V.2.spec x [⟨.byte,a0⟩,⟨(.int .i64),a1⟩]) x (s.drop i)=bif s.getD i 0==61 then (true,x) else
   bif (V.2.spec x [⟨.byte,s.getD i 0⟩,⟨(.int .i64),(bif (z121 (s.getD i 0)).2 then (z121 (s.getD i 0)).1 else -1)⟩]).1 then
    bif (V.2.spec x [⟨.byte,s.getD i 0⟩,⟨(.int .i64),(bif (z121 (s.getD i 0)).2 then (z121 (s.getD i 0)).1 else -1)⟩]).2.1 then
     eachB (fun x a0 a1=>V.2.spec x [⟨.byte,a0⟩,⟨(.int .i64),a1⟩]) (V.2.spec x [⟨.byte,s.getD i 0⟩,⟨(.int .i64),(bif (z121 (s.getD i 0)).2 then (z121 (s.getD i 0)).1 else -1)⟩]).2.2 (s.drop (i+1))
    else (true,(V.2.spec x [⟨.byte,s.getD i 0⟩,⟨(.int .i64),(bif (z121 (s.getD i 0)).2 then (z121 (s.getD i 0)).1 else -1)⟩]).2.2)
   else (false,x):=by
   rw [qab hlt]; rfl
  rw [e] at h ⊢;simp (disch:=omega) only [dT,yc,yi,tn];cases h61:s.getD i 0==61 with
  | true=>rfl
  | false =>
   rw [h61] at h;rw [yd] at h ⊢;rw [yd];have hN:∀ y,(eachB (fun x a0 a1=>V.2.spec x [⟨.byte,a0⟩,⟨(.int .i64),a1⟩]) y (s.drop (i+1))).1=true→qfW V (qbU V) (qda V j) n s (s.length:Nat) (IntKind.wrap .i64 (((i:Nat):Int)+1)) y s29=qbU V (eachB (fun x a0 a1=>V.2.spec x [⟨.byte,a0⟩,⟨(.int .i64),a1⟩]) y (s.drop (i+1))).2 s29:=fun y hy=>by
    rw [qf (by omega)];exact qwf V j s s29 hl d (i+1) n y (by omega) (by omega) hy
   cases hv:(z121 (s.getD i 0)).2 with
   | true =>
    rw [hv] at h;exact qEj (V.2.spec x [⟨.byte,s.getD i 0⟩,⟨(.int .i64),(z121 (s.getD i 0)).1⟩]) x (fun y=>qbU V y s29) _ _ hN h
   | false =>
    rw [hv] at h;exact qEj (V.2.spec x [⟨.byte,s.getD i 0⟩,⟨(.int .i64),-1⟩]) x (fun y=>qbU V y s29) _ _ hN h
theorem qJg (V:Sigma Inv):∀ (x0:Den V.1) (x1:LU),(z173 (fun x a0 a1=>V.2.spec x [⟨.byte,a0⟩,⟨(.int .i64),a1⟩]) x0 x1).1=true→∃ n,qvO V n x0 x1=qbU V (z173 (fun x a0 a1=>V.2.spec x [⟨.byte,a0⟩,⟨(.int .i64),a1⟩]) x0 x1).2.1 (z173 (fun x a0 a1=>V.2.spec x [⟨.byte,a0⟩,⟨(.int .i64),a1⟩]) x0 x1).2.2:=fun x s h=>⟨s.length+1,by
 unfold z173 at h ⊢;cases hk:lenOk s with
 | false=>rw [hk] at h; cases h
 | true =>
  rw [hk,yc] at h;rw [yc];unfold qvO;have:=qwf V (s.length+1) s s (qd hk) s.length 0 (s.length+1) x (by omega) (by omega) (by rw [yw]; exact h);rw [yw] at this;exact this⟩
theorem qwg (c:UInt8) (r:LU):digB (c :: r)=bif c==61 then [] else bif isB64 c then c :: digB r else digB r:=by
 unfold digB;rw [List.takeWhile_cons];cases h:c==61 with
 | true =>
  have:(c != 61)=false:=by rw [bne,h]; rfl
  rw [this]; rfl
 | false =>
  have:(c != 61)=true:=by rw [bne,h]; rfl
  rw [this,if_pos rfl,yd,List.filter_cons];cases isB64 c <;> rfl
theorem qNW (j:Nat) (c:UInt8) (out:LU) (h m:Int):qhD j (false,(out,(h,(m,())))) c (-1)=(true,true,(false,(out,(h,(m,()))))):=by
 unfold qhD;rw [show decide ((-1:Int) < 0)=true from rfl,yc];show (bif false then _ else yfin _ _ _)=_;rw [yd,qtR]; rfl
theorem qJh (j:Nat) (c:UInt8) (out:LU) (h m n:Nat) (hm:m=0∨m=2∨m=4∨m=6) (hh:h < 2 ^ m) (hn:n < 64) (ho:out.length+1≤room) :
 qhD j (false,(out,((h:Int),((m:Int),())))) c (n:Int)=(true,true,(false,(out++decO m h n,(((decH m h n:Nat):Int),(((decM m:Nat):Int),()))))):=by
 unfold qhD;rw [dF (show ¬ (n:Int) < 0 by omega),yd];have hs:=qKF (fun o (h m:Int)=>(some (.dat (.pair .bool (.pair (.sl .byte) (.pair (.int .i64) (.pair (.int .i64) .unit)))) (false,(o,(h,(m,())))) none):OA)) none out h m n hm hh hn ho;refine (show _=yfin (.pair (.sl .byte) (.pair (.int .i64) (.pair (.int .i64) .unit))) (false,(out,((h:Int),((m:Int),())))) (decT (fun o (h m:Int)=>(some (.dat (.pair .bool (.pair (.sl .byte) (.pair (.int .i64) (.pair (.int .i64) .unit)))) (false,(o,(h,(m,())))) none):OA)) none out h m n) from rfl).trans ?_;rw [hs,qtR]; rfl
theorem qkL (j:Nat):∀ (s t out:LU) (h m:Nat),DecSt t out m h→out.length+s.length≤1048576 →
 ∃ (out':LU) (h' m':Nat),eachB (qhD j) (false,(out,((h:Int),((m:Int),())))) s=(true,(false,(out',((h':Int),((m':Int),())))))∧DecSt (t++digB s) out' m' h'
 | [],t,out,h,m,e,_=>⟨out,h,m,rfl,by rw [show digB []=[] from rfl,yG]; exact e⟩
 | c :: r,t,out,h,m,e,hl=>by
  rw [qwg];simp only [yg] at hl;cases h61:c==61 with
  | true =>
   refine ⟨out,h,m,?_,by rw [yc,yG]; exact e⟩;show (bif c==61 then _ else _)=_;rw [h61]; rfl
  | false =>
   rw [yd];cases hv:(z121 c).2 with
   | false =>
    rw [show isB64 c=false from hv,yd];obtain ⟨out',h',m',k1,k2⟩:=qkL j r t out h m e (by omega);refine ⟨out',h',m',?_,k2⟩;unfold eachB;rw [h61,yd,hv,yd,qNW,← k1]; rfl
   | true =>
    obtain ⟨v,hv1,hv2⟩:=qEg c;rw [show isB64 c=true from hv,yc];have hd:=qEh m h v;obtain ⟨out',h',m',k1,k2⟩:=qkL j r (t++[c]) (out++decO m h v) (decH m h v) (decM m) (e.step c v hv1 hv2) (by rw [yn]; omega);refine ⟨out',h',m',?_,by rw [yl] at k2; exact k2⟩;unfold eachB;rw [h61,yd,hv,yc,hv1,qJh j c out h m v e.cases e.lt hv2 (by unfold room; omega),← k1]; rfl
theorem qJi:∀ (s0:LU),(qun s0=true)→∃ n,qDA n s0=qta (z137 s0).1 (z137 s0).2:=fun s h=>⟨0,by
 have hl:=qd h;obtain ⟨out,hh,m,k1,k2⟩:=qkL 0 s [] [] 0 0 DecSt.nil (by simpa using hl);have k3:=k2.octets;rw [List.nil_append] at k3;have e:z173 (qhD 0) (false,(([]:LU),((0:Int),((0:Int),())))) s=(true,(false,(out,((hh:Int),((m:Int),())))),s):=by
  unfold z173;rw [show lenOk s=true from h,yc];have k1':eachB (qhD 0) (false,(([]:LU),((0:Int),((0:Int),())))) s=(true,(false,(out,((hh:Int),((m:Int),()))))):=k1;rw [k1']
 unfold qDA qfX qdL;rw [e];simp only [yc,yd,qar];unfold z137;rw [k3.1,k3.2.1]⟩
theorem qJj:∀ (s0:LU),(qup s0=true)→∃ n,qDC n s0=qDB (z107 s0):=fun s h=>⟨0,by
 unfold qDC;rw [show qun s=true from h]; rfl⟩
theorem qJk:∀ (c0:UInt8),∃ n,qDp n c0=qeV (z132 c0):=fun c=>⟨0,by
 unfold qDp z132 qk;cases decide (c < 128) <;> cases decide (c < 194) <;> cases decide (244 < c) <;> cases decide (c < 224) <;> cases decide (c < 240) <;> rfl⟩
theorem qqP:∀ i:Fin 256,(((UInt8.ofNat i.val) &&& ~~~ (63:UInt8))==(128:UInt8))=z159 (UInt8.ofNat i.val):=by decide +kernel
theorem qJl:∀ (c0:UInt8),∃ n,qDr n c0=qDq (z159 c0):=fun c=>⟨0,by
 unfold qDr;rw [qce (P:=fun c=>((c &&& ~~~ (63:UInt8))==(128:UInt8))=z159 c) qqP c]⟩
theorem qJm:∀ (first0:UInt8) (c1:UInt8),∃ n,qDs n first0 c1=qct (z160 first0 c1):=fun f c=>⟨0,by
 unfold qDs z160;cases (f==224) <;> cases (f==237) <;> cases (f==240) <;> cases (f==244) <;> cases decide (160≤c) <;> cases decide (c < 160) <;> cases decide (144≤c) <;> cases decide (c < 144) <;> rfl⟩
theorem qKH:∀ (f:UInt8) (n:Nat) (one:Bool) (s:LU),runB f n one s≤n∧runB f n one s≤s.length
 | f,0,one,s=>by cases s <;> exact ⟨yv _,Nat.zero_le _⟩
 | f,n+1,one,[]=>⟨Nat.zero_le _,Nat.zero_le _⟩
 | f,n+1,one,x :: r=>by
  have ih:=qKH f n false r;show (bif z159 x&&(!one||z160 f x) then runB f n false r+1 else 0)≤n+1∧(bif z159 x&&(!one||z160 f x) then runB f n false r+1 else 0)≤r.length+1;cases z159 x&&(!one||z160 f x)
  ·exact ⟨Nat.zero_le _,Nat.zero_le _⟩
  ·simp only [yc]; omega
theorem qiC (c:UInt8):qk c≤4:=by
 unfold qk;cases decide (c < 128) <;> cases decide (c < 194)||decide (244 < c) <;> cases decide (c < 224) <;> cases decide (c < 240) <;> decide
theorem qEk (m:Nat) (x:UInt8) (r:LU) (hl:r.length≤1048576):∀ (d i n:Nat),qk x=i+d→1≤i→i≤r.length+1→d < n →
 qhC qaU (qao m) n (x :: r) (i:Nat)=qaU ((i+runB x d (i==1) (r.drop (i - 1)):Nat):Int)
 | d,i,0,_,_,_,hn=>by omega
 | 0,i,n+1,hs,hi,hr,hn=>by
  show qci _ _ _ n _ _=_;unfold qci;have e0:z132 (List.getD (x :: r) (Int.toNat 0) 0)=((qk x:Nat):Int):=rfl;have h0:decide ((0:Int) < (((x :: r).length:Nat):Int))=true:=dT (by simp only [yg]; omega);rw [e0,h0,dF (show ¬ ((i:Nat):Int) < ((qk x:Nat):Int) by omega)];have hr0:runB x 0 (i==1) (r.drop (i - 1))=0:=by cases r.drop (i - 1) <;> rfl
  rw [hr0];show qao m (x :: r) ((i:Nat):Int)=_;unfold qao;rw [e0,h0];show qaU (bif decide (((qk x:Nat):Int) < ((i:Nat):Int)) then _ else _)=_;rw [dF (by omega)]; rfl
 | d+1,i,n+1,hs,hi,hr,hn=>by
  show qci _ _ _ n _ _=_;unfold qci;have e0:z132 (List.getD (x :: r) (Int.toNat 0) 0)=((qk x:Nat):Int):=rfl;have h0:decide ((0:Int) < (((x :: r).length:Nat):Int))=true:=dT (by simp only [yg]; omega);rw [e0,h0,dT (show ((i:Nat):Int) < ((qk x:Nat):Int) by omega)];simp only [yc,yi,show decide ((0:Int)≤0)=true from rfl]
  by_cases hlt:i < (x :: r).length
  ·have hlt':i - 1 < r.length:=by simp only [yg] at hlt; omega
   obtain ⟨y,hy⟩:∃ y,r.getD (i - 1) 0=y:=⟨_,rfl⟩;have hg:(x :: r).getD i 0=y:=by
    obtain ⟨k,rfl⟩:∃ k,i=k+1:=⟨i - 1,by omega⟩;exact hy
   have hdr:r.drop (i - 1)=y :: r.drop i:=by
    have:=qab hlt';rw [this,hy,show i - 1+1=i by omega]
   rw [dT (show ((i:Nat):Int) < (((x :: r).length:Nat):Int) by omega),dT (show (0:Int)≤((i:Nat):Int) by omega),tn,hg,hdr];simp only [yc,yi];have hrun:runB x (d+1) (i==1) (y :: r.drop i)=bif z159 y&&(!(i==1)||z160 x y) then runB x d false (r.drop i)+1 else 0:=rfl
   have ih:=qEk m x r hl d (i+1) n (by omega) (by omega) (by simp only [yg] at hlt; omega) (by omega);rw [show i+1 - 1=i by omega,show (i+1==1)=false by simp; omega] at ih;rw [hrun];cases hf:z159 y with
   | false=>simp only [Bool.not_false,yc,Bool.false_and,yd,Nat.add_zero]
   | true =>
    simp only [Bool.not_true,yd,y5];have hfin:qhC qaU (qao m) n (x :: r) (IntKind.wrap .i64 (((i:Nat):Int)+1))=qaU ((i+(runB x d false (r.drop i)+1):Nat):Int):=by
     rw [qf (by omega),ih,show i+1+runB x d false (r.drop i)=i+(runB x d false (r.drop i)+1) by omega]
    by_cases h1:i=1
    ·subst h1;rw [show (((1:Nat):Int)==1)=true from rfl,show ((1:Nat)==1)=true from rfl,yc,dT (show (1:Int) < (((x :: r).length:Nat):Int) by omega)];simp only [show decide ((0:Int)≤1)=true from rfl,yi,yc];have e1:List.getD (x :: r) (Int.toNat 1) 0=y:=hg;have e2:List.getD (x :: r) (Int.toNat 0) 0=x:=rfl;rw [e1,e2];cases hs2:z160 x y with
     | false=>rfl
     | true =>
      simp only [Bool.not_true,yd,Bool.false_or,yc];exact hfin
    ·rw [show (((i:Nat):Int)==1)=false by simp; omega,show (i==1)=false by simpa using h1];simp only [yd,Bool.not_false,Bool.true_or,yc];exact hfin
  ·have hi2:i=r.length+1:=by simp only [yg] at hlt; omega
   rw [dF (show ¬ ((i:Nat):Int) < (((x :: r).length:Nat):Int) by omega),yd,yA (by omega)];show qao m (x :: r) ((i:Nat):Int)=qaU ((i+0:Nat):Int);unfold qao;rw [e0,h0];show qaU (bif decide (((qk x:Nat):Int) < ((i:Nat):Int)) then _ else _)=_;rw [dF (by omega)]; rfl
theorem qJn:∀ (s0:LU),(qlw s0=true)→∃ n,qvG n s0=qaU (z131 s0):=fun s h=>⟨6,by
 unfold qlw at h;rw [yf] at h;have hl:=qd h.1;match s,h.2 with
 | x :: r,_ =>
  simp only [yg] at hl;have h4:=qiC x;have ef:z131 (x :: r)=((bif qk x==0 then 0 else 1+runB x (qk x - 1) true r:Nat):Int):=rfl;unfold qvG;rw [ef]
  by_cases h0:qk x=0
  ·rw [show (qk x==0)=true by simpa using h0,yc];have e0:z132 (List.getD (x :: r) (Int.toNat 0) 0)=((qk x:Nat):Int):=rfl;have h0':decide ((0:Int) < (((x :: r).length:Nat):Int))=true:=dT (by simp only [yg]; omega);show qci qaU (qao 6) _ 5 (x :: r) 1=_;unfold qci;rw [e0,h0',dF (show ¬ (1:Int) < ((qk x:Nat):Int) by omega)];show qao 6 (x :: r) 1=_;unfold qao;rw [e0,h0'];show qaU (bif decide (((qk x:Nat):Int) < (1:Int)) then ((qk x:Nat):Int) else _)=_;rw [dT (by omega),h0]; rfl
  ·rw [show (qk x==0)=false by simpa using h0,yd];have:=qEk 6 x r (by omega) (qk x - 1) 1 6 (by omega) (yv 1) (by omega) (by omega);rw [show (1:Nat) - 1=0 from rfl,yw] at this;exact this⟩
theorem qNX (a b:Nat) (hb:b < 64) (h:a*64+b < 2147483648):bits .or .i32 ((a*64:Nat):Int) (b:Int)=((a*64+b:Nat):Int):=by
 have h1:(BitVec.ofInt 32 ((a*64:Nat):Int)).toNat=a*64:=by rw [BitVec.toNat_ofInt]; omega
 have h2:(BitVec.ofInt 32 ((b:Nat):Int)).toNat=b:=by rw [BitVec.toNat_ofInt]; omega
 have h3:(BitVec.ofInt 32 ((a*64:Nat):Int) ||| BitVec.ofInt 32 (b:Int)).toNat=a*64+b:=by
  rw [BitVec.toNat_or,h1,h2];have:=Nat.shiftLeft_add_eq_or_of_lt (i:=6) hb a;rw [Nat.shiftLeft_eq] at this;exact this.symm
 show IntKind.wrap .i32 (((BitVec.ofInt 32 ((a*64:Nat):Int) ||| BitVec.ofInt 32 (b:Int)).toNat:Nat):Int)=_;rw [h3,IntWalk.i32_in _ (by omega)]
def foldS (t:LU) (c:Int):Int:=t.foldl (fun c y=>c*64+((y &&& 63).toNat:Int)) c
theorem qEl:∀ i:Fin 256,((UInt8.ofNat i.val) &&& (63:UInt8)).toNat < 64:=by decide +kernel
theorem low6 (y:UInt8):(y &&& 63).toNat < 64:=qce (P:=fun y=>(y &&& 63).toNat < 64) qEl y
theorem qyH:∀ i:Fin 256,(!(z159 (UInt8.ofNat i.val))||decide ((UInt8.ofNat i.val).toNat=((UInt8.ofNat i.val) &&& (63:UInt8)).toNat+128))=true:=by decide +kernel
theorem low6f {y:UInt8} (h:z159 y=true):y.toNat=(y &&& 63).toNat+128:=by
 have k:=qce (P:=fun y=>(!(z159 y)||decide (y.toNat=(y &&& (63:UInt8)).toNat+128))=true) qyH y;rw [h,Bool.not_true,Bool.false_or,ym] at k;exact k
theorem qlT (m:Nat) (t:LU) (n5:Int) (hl:t.length≤1048576):∀ (d i n b c:Nat),i+d=t.length→d < n→c < b→b*64 ^ d≤67108864 →
 qdI (qcF m) n n5 (c:Int) t (t.length:Nat) (i:Nat)=qcZ (foldS (t.drop i) c) n5 0
 | d,i,0,b,c,hi,hn,_,_=>by omega
 | 0,i,n+1,b,c,hi,hn,_,_=>by
  obtain rfl:i=t.length:=by omega
  show qcE _ _ n _ _ _ _ _=_;unfold qcE;rw [dF (by omega),yd,List.drop_length];rfl
 | d+1,i,n+1,b,c,hi,hn,hc,hb=>by
  show qcE _ _ n _ _ _ _ _=_;unfold qcE;have hlt:i < t.length:=by omega
  have h64:0 < 64 ^ d:=Nat.pow_pos (by decide);have hb':b*64*64 ^ d≤67108864:=by rw [Nat.pow_succ] at hb; rwa [Nat.mul_assoc,Nat.mul_comm 64]
  have hb2:b*64≤b*64*64 ^ d:=Nat.le_mul_of_pos_right _ h64;have hy:=low6 (t.getD i 0);simp (disch:=omega) only [dT,yc,yi,tn];have e1:IntKind.wrap .i32 ((c:Int)*2 ^ (min (Int.toNat (6:Int)) (IntKind.bits .i32)))=((c*64:Nat):Int):=by
   show IntKind.wrap .i32 ((c:Int)*64)=_;rw [IntWalk.i32_in _ (by omega)]; omega
  rw [e1,IntWalk.i32_in _ (by omega),qNX _ _ hy (by omega),qf (by omega),qlT m t n5 hl d (i+1) n (b*64) _ (by omega) (by omega) (by omega) hb',qab hlt];show _=qcZ (foldS (t.drop (i+1)) ((c:Int)*64+(((t.getD i 0) &&& 63).toNat:Int))) n5 0;congr 2
theorem qEm:∀ i:Fin 256,∀ n:Fin 5,((UInt8.ofNat i.val) &&& ~~~ (z133 ((n.val:Nat):Int)))=((UInt8.ofNat i.val) &&& (255 ^^^ (z133 ((n.val:Nat):Int)))):=by decide +kernel
theorem qSV (x:UInt8) (n:Nat) (hn:n < 5):(x &&& ~~~ (z133 ((n:Nat):Int)))=(x &&& (255 ^^^ (z133 ((n:Nat):Int)))):=qce (P:=fun x=>∀ n:Fin 5,(x &&& ~~~ (z133 ((n.val:Nat):Int)))=(x &&& (255 ^^^ (z133 ((n.val:Nat):Int))))) qEm x ⟨n,hn⟩
theorem qEn (x:UInt8) (r:LU):farN (x :: r)≤qk x∧farN (x :: r)≤r.length+1:=by
 show (bif qk x==0 then 0 else 1+runB x (qk x - 1) true r)≤_∧(bif qk x==0 then 0 else 1+runB x (qk x - 1) true r)≤_;have:=qKH x (qk x - 1) true r;cases h:qk x==0 with
 | true=>exact ⟨Nat.zero_le _,Nat.zero_le _⟩
 | false =>
  rw [yB] at h;simp only [yd]; omega
theorem qJo:∀ (s0:LU),(qui s0=true)→∃ n,qvH n s0=qcZ (z102 s0).1 (z102 s0).2.1 (z102 s0).2.2:=fun s h=>⟨s.length+5,by
 have hl:=qd h;match s with
 | []=>rfl
 | x :: r =>
  simp only [yg] at hl;have hf:=qEn x r;have h4:=qiC x;obtain ⟨N,hN⟩:∃ N,farN (x :: r)=N:=⟨_,rfl⟩;have eT:z102 (x :: r)=bif farN (x :: r)==0 then ((0:Int),((1:Int),(3:Int))) else bif decide (farN (x :: r) < qk x)&&(farN (x :: r)==(x :: r).length) then (0,(farN (x :: r):Nat),4)
   else bif decide (farN (x :: r) < qk x) then (0,(farN (x :: r):Nat),3) else (signN (farN (x :: r)) (x :: r),(farN (x :: r):Nat),0):=rfl
  have eF:z131 (x :: r)=(N:Int):=by rw [← hN]; rfl
  have eS:z132 (List.getD (x :: r) (Int.toNat 0) 0)=((qk x:Nat):Int):=rfl;have hok:qlw (x :: r)=true:=by
   unfold qlw;rw [qi (show (x :: r).length≤1048576 by simp only [yg]; omega)]; rfl
  have h0:decide ((0:Int) < (((x :: r).length:Nat):Int))=true:=dT (by simp only [yg]; omega);have h00:((((x :: r).length:Nat):Int)==0)=false:=by rw [yB]; simp only [yg]; omega
  rw [eT,hN];rw [hN] at hf;unfold qvH qfT qfS qdJ qcG qbS;rw [eF,eS,hok,h0,h00];simp only [yi,yc,yd,show decide ((0:Int)≤0)=true from rfl]
  by_cases hz:N=0
  ·subst hz; rfl
  ·rw [show (((N:Nat):Int)==0)=false by rw [yB]; omega,show (N==0)=false by simpa using hz];simp only [yd]
   by_cases hs:N < qk x
   ·rw [dT (show ((N:Nat):Int) < ((qk x:Nat):Int) by omega),yo hs];simp only [yc,y5]
    by_cases hlN:N=(x :: r).length
    ·rw [show (((N:Nat):Int)==(((x :: r).length:Nat):Int))=true by rw [beq_iff_eq]; omega,show (N==(x :: r).length)=true by simpa using hlN];rfl
    ·rw [show (((N:Nat):Int)==(((x :: r).length:Nat):Int))=false by rw [yB]; omega,show (N==(x :: r).length)=false by simpa using hlN];rfl
   ·rw [dF (show ¬ ((N:Nat):Int) < ((qk x:Nat):Int) by omega),yx hs];simp only [yd,Bool.false_and];rw [dT (show (1:Int)≤((N:Nat):Int) by omega),dT (show ((N:Nat):Int)≤(((x :: r).length:Nat):Int) by simp only [yg]; omega)];simp only [show decide ((0:Int)≤1)=true from rfl,yi,yc,tn];have e1:List.drop (Int.toNat 1) (List.take N (x :: r))=r.take (N - 1):=by
     obtain ⟨k,rfl⟩:∃ k,N=k+1:=⟨N - 1,by omega⟩;rfl
    have e2:List.getD (x :: r) (Int.toNat 0) 0=x:=rfl;rw [e1,e2,qSV x N (by omega)];have hx:=(x &&& (255 ^^^ z133 ((N:Nat):Int))).toNat_lt;have ht:(r.take (N - 1)).length=N - 1:=by rw [yz]; omega
    rw [IntWalk.i32_in _ (by omega)];have:=qlT ((x :: r).length+5) (r.take (N - 1)) (N:Int) (by omega) (r.take (N - 1)).length 0 ((x :: r).length+5) 256 _ (by omega) (by simp only [yg]; omega) hx (by
     rw [ht];have:N - 1=0∨N - 1=1∨N - 1=2∨N - 1=3:=by omega
     rcases this with e | e | e | e <;> rw [e] <;> decide)
    rw [yw] at this;exact this⟩
theorem qEo:∀ i:Fin 256,((bif decide ((UInt8.ofNat i.val) < (128:UInt8)) then (1:Int) else bif decide ((194:UInt8)≤(UInt8.ofNat i.val))&&decide ((UInt8.ofNat i.val)≤(223:UInt8)) then 2 else bif decide ((224:UInt8)≤(UInt8.ofNat i.val))&&decide ((UInt8.ofNat i.val)≤(239:UInt8)) then 3
 else bif decide ((240:UInt8)≤(UInt8.ofNat i.val))&&decide ((UInt8.ofNat i.val)≤(244:UInt8)) then 4 else 0)==z132 (UInt8.ofNat i.val))=true:=by decide +kernel
theorem qNY:∀ (c0:UInt8),∃ n,qNc n c0=qbh (z81 c0):=fun c=>⟨0,by
 have h:=qce (P:=fun c=>((bif decide (c < (128:UInt8)) then (1:Int) else bif decide ((194:UInt8)≤c)&&decide (c≤(223:UInt8)) then 2 else bif decide ((224:UInt8)≤c)&&decide (c≤(239:UInt8)) then 3
  else bif decide ((240:UInt8)≤c)&&decide (c≤(244:UInt8)) then 4 else 0)==z132 c)=true) qEo c
 rw [beq_iff_eq] at h;unfold qNc z81;rw [← h];cases decide (c < (128:UInt8)) <;> cases decide ((194:UInt8)≤c) <;> cases decide (c≤(223:UInt8)) <;> cases decide ((224:UInt8)≤c) <;> cases decide (c≤(239:UInt8)) <;> cases decide ((240:UInt8)≤c) <;> cases decide (c≤(244:UInt8)) <;> rfl⟩
theorem qJp:∀ (c0:UInt8),∃ n,qDU n c0=qhb (z115 c0).1 (z115 c0).2:=fun c=>⟨0,by
 unfold qDU z115;cases (c==(224:UInt8)) <;> cases (c==(237:UInt8)) <;> cases (c==(240:UInt8)) <;> cases (c==(244:UInt8)) <;> rfl⟩
def inR (a b y:UInt8):Bool := !(decide (y < a)) && !(decide (b < y))
theorem qli:∀ i:Fin 256,inR 128 191 (UInt8.ofNat i.val)=z159 (UInt8.ofNat i.val):=by decide +kernel
theorem qwh (y:UInt8):inR 128 191 y=z159 y:=qce (P:=fun y=>inR 128 191 y=z159 y) qli y
theorem in_a:∀ i:Fin 256,inR 160 191 (UInt8.ofNat i.val)=(z159 (UInt8.ofNat i.val)&&(decide ((160:UInt8)≤(UInt8.ofNat i.val))&&z159 (UInt8.ofNat i.val))):=by decide +kernel
theorem in_b:∀ i:Fin 256,inR 128 159 (UInt8.ofNat i.val)=(z159 (UInt8.ofNat i.val)&&(decide ((UInt8.ofNat i.val) < (160:UInt8))&&z159 (UInt8.ofNat i.val))):=by decide +kernel
theorem in_c:∀ i:Fin 256,inR 144 191 (UInt8.ofNat i.val)=(z159 (UInt8.ofNat i.val)&&(decide ((144:UInt8)≤(UInt8.ofNat i.val))&&z159 (UInt8.ofNat i.val))):=by decide +kernel
theorem in_d:∀ i:Fin 256,inR 128 143 (UInt8.ofNat i.val)=(z159 (UInt8.ofNat i.val)&&(decide ((UInt8.ofNat i.val) < (144:UInt8))&&z159 (UInt8.ofNat i.val))):=by decide +kernel
theorem qJq (x y:UInt8):inR (z115 x).1 (z115 x).2 y=(z159 y&&z160 x y):=by
 unfold z115 z160;cases (x==(224:UInt8))
 ·cases (x==(237:UInt8))
  ·cases (x==(240:UInt8))
   ·cases (x==(244:UInt8))
    ·show inR 128 191 y=_;rw [qwh];cases z159 y <;> rfl
    ·exact qce (P:=fun y=>inR 128 143 y=(z159 y&&(decide (y < (144:UInt8))&&z159 y))) in_d y
   ·exact qce (P:=fun y=>inR 144 191 y=(z159 y&&(decide ((144:UInt8)≤y)&&z159 y))) in_c y
  ·exact qce (P:=fun y=>inR 128 159 y=(z159 y&&(decide (y < (160:UInt8))&&z159 y))) in_b y
 ·exact qce (P:=fun y=>inR 160 191 y=(z159 y&&(decide ((160:UInt8)≤y)&&z159 y))) in_a y
theorem qwi {α:Type} (a b y:UInt8) (p q:α):(bif decide (y < a) then p else bif decide (b < y) then p else q)=bif inR a b y then q else p:=by
 unfold inR;cases decide (y < a) <;> cases decide (b < y) <;> rfl
theorem qwj (m:Nat) (x:UInt8) (r:LU) (hl:r.length≤1048576):∀ (d i n:Nat),qk x=i+d→1≤i→i≤r.length+1→d < n →
 qqC qeH (qhd m) n (x :: r) (i:Nat)=qeH ((i+runB x d (i==1) (r.drop (i - 1)):Nat):Int)
 | d,i,0,_,_,_,hn=>by omega
 | 0,i,n+1,hs,hi,hr,hn=>by
  show qhc _ _ _ n _ _=_;unfold qhc qbD;have e0:z81 (List.getD (x :: r) (Int.toNat 0) 0)=((qk x:Nat):Int):=rfl;have h0:decide ((0:Int) < (((x :: r).length:Nat):Int))=true:=dT (by simp only [yg]; omega);rw [e0,h0,dF (show ¬ ((i:Nat):Int) < ((qk x:Nat):Int) by omega)];have hr0:runB x 0 (i==1) (r.drop (i - 1))=0:=by cases r.drop (i - 1) <;> rfl
  rw [hr0];rfl
 | d+1,i,n+1,hs,hi,hr,hn=>by
  show qhc _ _ _ n _ _=_;unfold qhc qbD;have e0:z81 (List.getD (x :: r) (Int.toNat 0) 0)=((qk x:Nat):Int):=rfl;have h0:decide ((0:Int) < (((x :: r).length:Nat):Int))=true:=dT (by simp only [yg]; omega);rw [e0,h0,dT (show ((i:Nat):Int) < ((qk x:Nat):Int) by omega)];simp only [yc,yi,show decide ((0:Int)≤0)=true from rfl]
  by_cases hlt:i < (x :: r).length
  ·have hlt':i - 1 < r.length:=by simp only [yg] at hlt; omega
   obtain ⟨y,hy⟩:∃ y,r.getD (i - 1) 0=y:=⟨_,rfl⟩;have hg:(x :: r).getD i 0=y:=by
    obtain ⟨k,rfl⟩:∃ k,i=k+1:=⟨i - 1,by omega⟩;exact hy
   have hdr:r.drop (i - 1)=y :: r.drop i:=by
    have:=qab hlt';rw [this,hy,show i - 1+1=i by omega]
   have e2:List.getD (x :: r) (Int.toNat 0) 0=x:=rfl;rw [dT (show ((i:Nat):Int) < (((x :: r).length:Nat):Int) by omega),dT (show (0:Int)≤((i:Nat):Int) by omega),tn,hg,hdr,e2];simp only [yc,yi];have hrun:runB x (d+1) (i==1) (y :: r.drop i)=bif z159 y&&(!(i==1)||z160 x y) then runB x d false (r.drop i)+1 else 0:=rfl
   have ih:=qwj m x r hl d (i+1) n (by omega) (by omega) (by simp only [yg] at hlt; omega) (by omega);rw [show i+1 - 1=i by omega,show (i+1==1)=false by simp; omega] at ih;rw [hrun,qwi,qwi,qJq,qwh];have hfin:qqC qeH (qhd m) n (x :: r) (IntKind.wrap .i64 (((i:Nat):Int)+1))=qeH ((i+(runB x d false (r.drop i)+1):Nat):Int):=by
    rw [qf (by omega),ih,show i+1+runB x d false (r.drop i)=i+(runB x d false (r.drop i)+1) by omega]
   by_cases h1:i=1
   ·subst h1;rw [show (((1:Nat):Int)==1)=true from rfl,show ((1:Nat)==1)=true from rfl,yc,Bool.not_true,Bool.false_or];cases z159 y&&z160 x y
    ·rfl
    ·exact hfin
   ·rw [show (((i:Nat):Int)==1)=false by simp; omega,show (i==1)=false by simpa using h1,yd,Bool.not_false,Bool.true_or,yi];cases z159 y
    ·rfl
    ·exact hfin
  ·have hi2:i=r.length+1:=by simp only [yg] at hlt; omega
   rw [dF (show ¬ ((i:Nat):Int) < (((x :: r).length:Nat):Int) by omega),yd,yA (by omega)];rfl
theorem qNZ:∀ (s0:LU),(qFx s0=true)→∃ n,qIf n s0=qeH (z80 s0):=fun s h=>⟨6,by
 have hl:=qd h;match s with
 | []=>rfl
 | x :: r =>
  simp only [yg] at hl;have h4:=qiC x;have ef:z80 (x :: r)=((bif qk x==0 then 0 else 1+runB x (qk x - 1) true r:Nat):Int):=rfl;have e0:z81 (List.getD (x :: r) (Int.toNat 0) 0)=((qk x:Nat):Int):=rfl;have h0':decide ((0:Int) < (((x :: r).length:Nat):Int))=true:=dT (by simp only [yg]; omega);have h00:((((x :: r).length:Nat):Int)==0)=false:=by rw [yB]; simp only [yg]; omega
  unfold qIf;rw [ef,e0,h0',h00];simp only [yd,yi,show decide ((0:Int)≤0)=true from rfl,yc]
  by_cases h0:qk x=0
  ·rw [h0]; rfl
  ·rw [show (qk x==0)=false by simpa using h0,show (((qk x:Nat):Int)==0)=false by rw [yB]; omega,yd,yd];have:=qwj 6 x r (by omega) (qk x - 1) 1 6 (by omega) (yv 1) (by omega) (by omega);rw [show (1:Nat) - 1=0 from rfl,yw] at this;exact this⟩
theorem qEp:∀ (f:UInt8) (n:Nat) (one:Bool) (s:LU),runB f n one s=n→(s.take n).all z159=true
 | f,0,one,s,_=>by cases s <;> rfl
 | f,n+1,one,[],h=>by cases h
 | f,n+1,one,x :: r,h=>by
  have h':(bif z159 x&&(!one||z160 f x) then runB f n false r+1 else 0)=n+1:=h;cases hc:z159 x&&(!one||z160 f x) with
  | false=>rw [hc] at h'; cases h'
  | true =>
   rw [hc,yc] at h';rw [yf] at hc;rw [List.take_succ_cons,List.all_cons,hc.1,qEp f n false r (by omega)]; rfl
theorem qyI:∀ i:Fin 256,(qk (UInt8.ofNat i.val)==0||(((UInt8.ofNat i.val).toNat:Int) - List.getD ([(0:Int),(0:Int),(192:Int),(224:Int),(240:Int)]:LI) (qk (UInt8.ofNat i.val)) 0==((((UInt8.ofNat i.val) &&& (255 ^^^ (z133 ((qk (UInt8.ofNat i.val):Nat):Int)))).toNat:Nat):Int)))=true:=by decide +kernel
theorem qqQ (m:Nat) (s:LU) (N:Nat) (hl:s.length≤1048576) (hN:N≤s.length):∀ (d i n b c:Nat),i+d=N→d < n→c < b→b*64 ^ d≤67108864→((s.drop i).take d).all z159=true →
 qti (qkB m) n s (N:Int) (c:Int) (i:Nat)=qeI (foldS ((s.drop i).take d) c) N 0
 | d,i,0,b,c,hi,hn,_,_,_=>by omega
 | 0,i,n+1,b,c,hi,hn,hc,hb,_=>by
  obtain rfl:i=N:=by omega
  show qhe _ _ n _ _ _ _=_;unfold qhe;rw [dF (by omega),yd,List.take_zero];show qeI (IntKind.wrap .i32 (c:Int)) _ 0=_;rw [IntWalk.i32_in _ (by omega)]; rfl
 | d+1,i,n+1,b,c,hi,hn,hc,hb,hF=>by
  show qhe _ _ n _ _ _ _=_;unfold qhe;have hlt:i < s.length:=by omega
  have h64:0 < 64 ^ d:=Nat.pow_pos (by decide);have hb':b*64*64 ^ d≤67108864:=by rw [Nat.pow_succ] at hb; rwa [Nat.mul_assoc,Nat.mul_comm 64]
  have hb2:b*64≤b*64*64 ^ d:=Nat.le_mul_of_pos_right _ h64;rw [qab hlt,List.take_succ_cons,List.all_cons,yf] at hF;have hy:=low6 (s.getD i 0);have hyf:=low6f hF.1;simp (disch:=omega) only [dT,yc,yi,tn];have e1:IntKind.wrap .i64 ((IntKind.wrap .i64 ((IntKind.wrap .i64 ((64:Int)*(c:Int)))+(IntKind.wrap .i64 (((s.getD i 0).toNat:Nat):Int)))) - (128:Int))=((c*64+((s.getD i 0) &&& 63).toNat:Nat):Int):=by
   rw [IntWalk.i64_in (64*(c:Int)) (by omega),IntWalk.i64_in (((s.getD i 0).toNat:Nat):Int) (by omega),IntWalk.i64_in (64*(c:Int)+_) (by omega),IntWalk.i64_in _ (by omega)];omega
  rw [e1,qf (by omega),qqQ m s N hl hN d (i+1) n (b*64) _ (by omega) (by omega) (by omega) hb' hF.2,qab hlt,List.take_succ_cons];show _=qeI (foldS ((s.drop (i+1)).take d) ((c:Int)*64+(((s.getD i 0) &&& 63).toNat:Int))) N 0;congr 2
theorem qOa:∀ (s0:LU),(qFy s0=true)→∃ n,qIg n s0=qeI (z49 s0).1 (z49 s0).2.1 (z49 s0).2.2:=fun s h=>⟨s.length+5,by
 have hl:=qd h;match s with
 | []=>rfl
 | x :: r =>
  simp only [yg] at hl;have hf:=qEn x r;have h4:=qiC x;obtain ⟨N,hN⟩:∃ N,farN (x :: r)=N:=⟨_,rfl⟩;have eT:z49 (x :: r)=bif farN (x :: r)==0 then ((0:Int),((1:Int),(3:Int))) else bif decide (farN (x :: r) < qk x)&&(farN (x :: r)==(x :: r).length) then (0,(farN (x :: r):Nat),4)
   else bif decide (farN (x :: r) < qk x) then (0,(farN (x :: r):Nat),3) else (signN (farN (x :: r)) (x :: r),(farN (x :: r):Nat),0):=rfl
  have eF:z80 (x :: r)=(N:Int):=by rw [← hN]; rfl
  have eS:z81 (List.getD (x :: r) (Int.toNat 0) 0)=((qk x:Nat):Int):=rfl;have hok:qFx (x :: r)=true:=qi (show (x :: r).length≤1048576 by simp only [yg]; omega);have h0:decide ((0:Int) < (((x :: r).length:Nat):Int))=true:=dT (by simp only [yg]; omega);have h00:((((x :: r).length:Nat):Int)==0)=false:=by rw [yB]; simp only [yg]; omega
  rw [eT,hN];rw [hN] at hf;unfold qIg;rw [eF,eS,hok,h0,h00];simp only [yi,yc,yd,show decide ((0:Int)≤0)=true from rfl]
  by_cases hz:N=0
  ·subst hz;rw [show decide ((0:Int) < ((0:Nat):Int))=false from rfl,show (((0:Nat):Int)==(((x :: r).length:Nat):Int))=false by rw [yB]; simp only [yg]; omega];rfl
  ·rw [dT (show (0:Int) < ((N:Nat):Int) by omega),show (N==0)=false by simpa using hz];simp only [yc,yd]
   by_cases hs:N < qk x
   ·rw [show (((N:Nat):Int)==((qk x:Nat):Int))=false by rw [yB]; omega,yo hs];simp only [yc,y5,yd]
    by_cases hlN:N=(x :: r).length
    ·rw [show (((N:Nat):Int)==(((x :: r).length:Nat):Int))=true by rw [beq_iff_eq]; omega,show (N==(x :: r).length)=true by simpa using hlN];rfl
    ·rw [show (((N:Nat):Int)==(((x :: r).length:Nat):Int))=false by rw [yB]; omega,show (N==(x :: r).length)=false by simpa using hlN,yd,yd];rw [show decide ((1:Int) > ((N:Nat):Int))=false from dF (by omega)];rfl
   ·have hNs:N=qk x:=by omega
    rw [show (((N:Nat):Int)==((qk x:Nat):Int))=true by rw [beq_iff_eq]; omega,yx hs];simp only [yd,Bool.false_and,yc];rw [dT (show (0:Int)≤((N:Nat):Int) by omega),dT (show ((N:Nat):Int) < ((([(0:Int),(0:Int),(192:Int),(224:Int),(240:Int)]:LI).length:Nat):Int) by show ((N:Nat):Int) < ((5:Nat):Int); omega)];simp only [yi,yc,tn];have e2:List.getD (x :: r) (Int.toNat 0) 0=x:=rfl;have hx:=(x &&& (255 ^^^ z133 ((N:Nat):Int))).toNat_lt;have hfs:=qce (P:=fun x=>(qk x==0||((x.toNat:Int) - List.getD ([(0:Int),(0:Int),(192:Int),(224:Int),(240:Int)]:LI) (qk x) 0==(((x &&& (255 ^^^ (z133 ((qk x:Nat):Int)))).toNat:Nat):Int)))=true) qyI x;rw [show (qk x==0)=false by rw [yB]; omega,Bool.false_or,beq_iff_eq,← hNs] at hfs;have hxl:=x.toNat_lt;rw [e2,IntWalk.i64_in ((x.toNat:Nat):Int) (by omega),hfs,IntWalk.i64_in _ (by omega)];have hall:((r.take (N - 1)).all z159)=true:=by
     refine qEp x (N - 1) true r ?_;have hN':(bif qk x==0 then 0 else 1+runB x (qk x - 1) true r)=N:=hN;rw [show (qk x==0)=false by rw [yB]; omega,yd,← hNs] at hN';omega
    have:=qqQ ((x :: r).length+5) (x :: r) N (by simp only [yg]; omega) (by simp only [yg]; omega) (N - 1) 1 ((x :: r).length+5) 256 _ (by omega) (by simp only [yg]; omega) hx (by
     have:N - 1=0∨N - 1=1∨N - 1=2∨N - 1=3:=by omega
     rcases this with e | e | e | e <;> rw [e] <;> decide) hall
    exact this⟩
theorem qOb:∀ (c0:Int) (e1:Int) (x2:LI),(qFN c0 e1 x2=true)→∃ n,qMD n c0 e1 x2=qDo (z62 c0 e1 x2):=fun c e t h=>⟨0,by
 have hl:t.length≤2097152:=of_decide_eq_true h;unfold qMD z62;have hr:∀ y:Int,t.length+([y]:LI).length≤room:=fun y=>by show t.length+1≤room; unfold room; omega
 rw [dT (hr 65533),dT (hr c)];cases (e != 0) <;> rfl⟩
theorem qKI (x:UInt8) (r:LU):(z102 (x :: r)).2.1=((z102 (x :: r)).2.1.toNat:Int)∧(z102 (x :: r)).2.1.toNat≤r.length+1:=by
 have hf:=qEn x r;show ((bif farN (x :: r)==0 then ((0:Int),((1:Int),(3:Int))) else bif decide (farN (x :: r) < qk x)&&(farN (x :: r)==(x :: r).length) then (0,(farN (x :: r):Nat),4)
  else bif decide (farN (x :: r) < qk x) then (0,(farN (x :: r):Nat),3) else (signN (farN (x :: r)) (x :: r),(farN (x :: r):Nat),0)).2.1=(((bif farN (x :: r)==0 then ((0:Int),((1:Int),(3:Int))) else bif decide (farN (x :: r) < qk x)&&(farN (x :: r)==(x :: r).length) then (0,(farN (x :: r):Nat),4)
  else bif decide (farN (x :: r) < qk x) then (0,(farN (x :: r):Nat),3) else (signN (farN (x :: r)) (x :: r),(farN (x :: r):Nat),0)).2.1.toNat:Nat):Int))∧(bif farN (x :: r)==0 then ((0:Int),((1:Int),(3:Int))) else bif decide (farN (x :: r) < qk x)&&(farN (x :: r)==(x :: r).length) then (0,(farN (x :: r):Nat),4)
  else bif decide (farN (x :: r) < qk x) then (0,(farN (x :: r):Nat),3) else (signN (farN (x :: r)) (x :: r),(farN (x :: r):Nat),0)).2.1.toNat≤r.length+1
 cases farN (x :: r)==0
 ·cases decide (farN (x :: r) < qk x)&&(farN (x :: r)==(x :: r).length)
  ·cases decide (farN (x :: r) < qk x)
   ·exact ⟨rfl,hf.2⟩
   ·exact ⟨rfl,hf.2⟩
  ·exact ⟨rfl,hf.2⟩
 ·exact ⟨rfl,by show 1≤_; omega⟩
theorem qEq (m:Nat):∀ (n k:Nat) (s:LU) (t:LI),s.length < n→s.length < k→s.length≤1048576→t.length+s.length≤2097152 →
 qcj (qbx m) n s t=qbT (t++utfR k s)
 | 0,k,s,t,hn,_,_,_=>by omega
 | n+1,0,s,t,_,hk,_,_=>by omega
 | n+1,k+1,[],t,_,_,_,_=>by
  show qbT t=qbT (t++[]);rw [yG]
 | n+1,k+1,x :: r,t,hn,hk,hl,ht=>by
  show qei _ (qcj (qbx m) n) n _ _=_;unfold qei;simp only [yg] at hn hk hl ht;obtain ⟨e1,e2⟩:=qKI x r;have e3:=qrH x r;rw [dT (show (0:Int) < (((x :: r).length:Nat):Int) by simp only [yg]; omega),show qui (x :: r)=true from qi (by simp only [yg]; omega),
   show qFN (z102 (x :: r)).1 (z102 (x :: r)).2.2 t=true from yo (by omega)]
  generalize hw:(z102 (x :: r)).2.1.toNat=w at e1 e2 e3;rw [e1,dT (show (0:Int)≤(w:Int) by omega),dT (show (w:Int)≤(((x :: r).length:Nat):Int) by simp only [yg]; omega),dT (Int.le_refl _)];simp only [yc,yi,tn,List.take_length];have hd:((x :: r).drop w).length≤r.length:=by rw [yK,yg]; omega
  have hd2:((x :: r).drop w).length+1≤r.length+1:=by omega
  rw [qEq m n k ((x :: r).drop w) (z62 (z102 (x :: r)).1 (z102 (x :: r)).2.2 t) (by omega) (by omega) (by omega) (by unfold z62; rw [yn]; show t.length+1+_≤_; omega)];show qbT _=qbT (t++((bif (z102 (x :: r)).2.2 != 0 then 65533 else (z102 (x :: r)).1) :: utfR k ((x :: r).drop (z102 (x :: r)).2.1.toNat)));rw [hw];unfold z62;rw [yl]; rfl
theorem qyJ:∀ (s0:LU) (f1:LI),(qdV s0 f1=true)→∃ n,qom n s0 f1=qbT (qLK s0 f1):=fun s t h=>⟨s.length+1,by
 unfold qdV at h;rw [yf,ym] at h;have hl:=qd h.1;exact qEq (s.length+1) (s.length+1) (s.length+1) s t (by omega) (by omega) hl (by omega)⟩
theorem qOc:∀ (s0:LU),(qhT s0=true)→∃ n,qME n s0=qKq (z38 s0):=fun s h=>⟨0,by
 unfold qME;have hok:qdV s []=true:=by unfold qdV; rw [show lenOk s=true from h]; rfl
 first
  | (rw [hok]; rfl)
  | rfl⟩
theorem qwk (m:Nat) (s:LU) (hl:s.length≤1048576):∀ (n k i:Nat) (out:LI) (b:Nat) (f:Int),s.length - i < n→s.length - i < k→out.length≤i→b≤i→i≤s.length →
 qqE (qhf m) n s out (b:Int) f (i:Int)=qqD (out++utfR k (s.drop i)) (utfE k (s.drop i) ((b:Int),f)).1 (utfE k (s.drop i) ((b:Int),f)).2
 | 0,k,i,out,b,f,hn,_,_,_,_=>by omega
 | n+1,0,i,out,b,f,_,hk,_,_,_=>by omega
 | n+1,k+1,i,out,b,f,hn,hk,ho,hb,hi=>by
  show qoE _ (qqE (qhf m) n) n _ _ _ _ _=_;unfold qoE qeA qaW
  by_cases hlt:i < s.length
  ·obtain ⟨x,r,hx⟩:∃ x r,s.drop i=x :: r:=⟨_,_,qab hlt⟩;have hrl:r.length+1+i=s.length:=by have:=congrArg List.length hx; rw [yK,yg] at this; omega
   obtain ⟨e1,e2⟩:=qKI x r;have e3:=qrH x r;rw [dT (show ((i:Nat):Int) < ((s.length:Nat):Int) by omega),dT (show (0:Int)≤((i:Nat):Int) by omega),dT (show ((i:Nat):Int)≤((s.length:Nat):Int) by omega),dT (Int.le_refl _),tn,tn,List.take_length,hx];simp only [yc,yi];rw [show qFy (x :: r)=true from qi (by simp only [yg]; omega),yc];rw [show z49 (x :: r)=z102 (x :: r) from rfl];generalize hw:(z102 (x :: r)).2.1.toNat=w at e1 e2 e3;rw [e1,show decide ((1:Int) > (w:Int))=false from dF (by omega),yd,show IntKind.wrap .i64 (((i:Nat):Int)+(w:Int))=((i+w:Nat):Int) by rw [IntWalk.i64_in _ (by omega)]; omega];have hdr:(x :: r).drop w=s.drop (i+w):=by rw [← hx,List.drop_drop]
   have hroom:∀ y:Int,out.length+([y]:LI).length≤room:=fun y=>by show out.length+1≤room; unfold room; omega
   have eR:utfR (k+1) (x :: r)=(bif (z102 (x :: r)).2.2 != 0 then 65533 else (z102 (x :: r)).1) :: utfR k (s.drop (i+w)):=by
    rw [← hdr,← hw]; rfl
   have eE:utfE (k+1) (x :: r) ((b:Int),f)=utfE k (s.drop (i+w)) (bif (z102 (x :: r)).2.2 != 0 then ((b:Int)+1,bif f==0 then (z102 (x :: r)).2.2 else f) else ((b:Int),f)):=by
    rw [← hdr,← hw]; rfl
   rw [eR,eE,dT (hroom 65533),dT (hroom (z102 (x :: r)).1)];have ih:=fun (y:Int) (b':Nat) (f':Int) (hb':b'≤i+w)=>qwk m s hl n k (i+w) (out++[y]) b' f' (by omega) (by omega) (by rw [yn]; show out.length+1≤_; omega) hb' (by omega);cases hc:((z102 (x :: r)).2.2 != 0) with
   | false =>
    simp only [yd,yc];rw [ih _ b f (by omega),yl]; rfl
   | true =>
    simp only [yc];rw [qf (by omega)];have hbe:(b:Int)+1=((b+1:Nat):Int):=by omega
    rw [hbe];cases hf:f==0 with
    | true=>simp only [yc]; rw [ih 65533 (b+1) _ (by omega),yl]; rfl
    | false=>simp only [yd]; rw [ih 65533 (b+1) _ (by omega),yl]; rfl
  ·rw [dF (by omega),yd,yA (by omega)];show qqD out (b:Int) f=qqD (out++[]) _ _;rw [yG]; rfl
theorem qOd:∀ (s0:LU),(qwZ s0=true)→∃ n,qNd n s0=qqD (z27 s0).1 (z27 s0).2.1 (z27 s0).2.2:=fun s h=>⟨s.length+1,by
 have hl:=qd h;have:=qwk (s.length+1) s hl (s.length+1) (s.length+1) 0 [] 0 0 (by omega) (by omega) (by simp) (yv 0) (by omega);rw [yw,List.nil_append] at this;exact this⟩
def qkM (cs:Int) (c:UInt8):Int:=bif cs==1 then z134 (c.toNat:Int) else bif cs==3 then z74 c else bif cs==4 then z75 c else (c.toNat:Int)
theorem u127 (c:UInt8):decide ((127:UInt8) < c)=decide ((128:Int)≤(c.toNat:Int)):=by
 by_cases h:(127:UInt8) < c
 ·rw [yo h];rw [UInt8.lt_iff_toNat_lt] at h;exact (yo (by have:(127:UInt8).toNat=127:=rfl; omega)).symm
 ·rw [yx h];rw [UInt8.lt_iff_toNat_lt] at h;exact (yx (by have:(127:UInt8).toNat=127:=rfl; omega)).symm
theorem qOe:∀ (charset0:Int) (s1:LU),(qxa charset0 s1=true)→∃ n,qIh n charset0 s1=qqF (z45 charset0 s1):=fun cs s h=>⟨s.length+1,by
 have hl:=qd h;unfold qIh;rw [show qwZ s=true from h];cases h5:cs==5 with
 | true =>
  have:=beq_iff_eq.1 h5;subst this;rfl
 | false =>
  rw [yd];have:=qkG (t:=s) (dv:=0) (f:=fun c=>[qkM cs c]) (q:=fun _=>true) (b:=1) (k0:=qhh (s.length+1)) (R:=none)
   (L:=fun n out i=>qtj (qhh (s.length+1)) n cs s out i) (fun x=>yv 1) (fun n i out hi hb=>by
    show qhg _ _ n _ _ _ _=_;unfold qhg qbE qQ qap;have hr:∀ y:Int,out.length+([y]:LI).length≤room:=fun y=>hb;simp (disch:=omega) only [dT,yc,yi,tn,qf];rw [qhm,u127];unfold qkM z134;cases h1:cs==1 with
    | true =>
     have hcs:=beq_iff_eq.1 h1;subst hcs;cases decide ((128:Int)≤((s.getD i 0).toNat:Int)) <;> rfl
    | false=>cases cs==3 <;> cases cs==4 <;> rfl) (fun n out=>by
    show qhg _ _ n _ _ _ _=_;unfold qhg qbE qQ qap;rw [dF (by omega)]; rfl) s.length 0 (s.length+1) [] (by omega) (by omega) (by show 0+_≤room; unfold room; omega)
  rw [yw,qkI,yc,List.nil_append,qkH] at this;refine this.trans ?_;show qqF (s.map (qkM cs))=qqF (z63 cs s);unfold z63;rw [h5];have hf:∀ b:Bool,(cs==1)=b→True:=fun _ _=>trivial;cases h1:cs==1 with
  | true=>rw [show qkM cs=fun c:UInt8=>z134 (c.toNat:Int) from funext fun c=>by unfold qkM; rw [h1]; rfl]; rfl
  | false =>
   cases h3:cs==3 with
   | true=>rw [show qkM cs=z74 from funext fun c=>by unfold qkM; rw [h1,h3]; rfl]; rfl
   | false =>
    cases h4:cs==4 with
    | true=>rw [show qkM cs=z75 from funext fun c=>by unfold qkM; rw [h1,h3,h4]; rfl]; rfl
    | false=>rw [show qkM cs=fun c:UInt8=>(c.toNat:Int) from funext fun c=>by unfold qkM; rw [h1,h3,h4]; rfl]; rfl⟩
theorem qKJ (ret:Bool→OA) (a b:LI) (hab:a.length=b.length) (hl:a.length≤1048576):∀ (d i n:Nat),i+d=a.length→d < n →
 z8_l4 ret (ret true) n a b (i:Nat)=ret (decide (a.drop i=b.drop i))
 | d,i,0,hi,hn=>by omega
 | 0,i,n+1,hi,hn=>by
  show qlE ret (ret true) (z8_l4 ret (ret true) n) n a b _=_;unfold qlE;rw [yx (by omega),yd,yA (by omega),yA (by omega)];rfl
 | d+1,i,n+1,hi,hn=>by
  show qlE ret (ret true) (z8_l4 ret (ret true) n) n a b _=_;unfold qlE;have hlt:i < a.length:=by omega
  have hlt':i < b.length:=by omega
  have ih:=qKJ ret a b hab hl d (i+1) n (by omega) (by omega);simp (disch:=omega) only [dT,yc,yi,tn,qf];rw [ih,qIj hlt hlt' 0];cases (a.getD i 0 != b.getD i 0) <;> rfl
theorem qSW:∀ (a0:LI) (b1:LI),(z8_ok a0 b1=true)→∃ n,z8_sh n a0 b1=qyC (z8 a0 b1):=fun a b h=>⟨a.length+1,by
 unfold z8_sh z8
 by_cases hab:a.length=b.length
 ·rw [show (((a.length:Nat):Int) != ((b.length:Nat):Int))=false by simp [hab],yd];exact qKJ qyC a b hab (qd h) a.length 0 (a.length+1) (by omega) (by omega)
 ·rw [show (((a.length:Nat):Int) != ((b.length:Nat):Int))=true by simp only [bne_iff_ne,ne_eq]; omega,yc,yx (fun e=>hab (by rw [e]))]⟩
theorem qOf:∀ (s0:LU),(qFP s0=true)→∃ n,qIc n s0=qKz (z76 s0):=fun s h=>⟨s.length+1,by
 have hl:=qd h;unfold qIc;have:=qkG (t:=s) (dv:=0) (f:=fun c=>[z109 c]) (q:=fun _=>true) (b:=1) (k0:=qgV (s.length+1)) (R:=none)
  (L:=fun n out i=>qtb (qgV (s.length+1)) n s out i) (fun x=>yv 1) (fun n i out hi hb=>by
   show qgU _ _ n _ _ _=_;unfold qgU;have hr:out.length+([z109 (s.getD i 0)]:LU).length≤room:=hb;simp (disch:=omega) only [dT,yc,yi,tn,qf];all_goals (rw [dT hr])
   all_goals rfl) (fun n out=>by
   show qgU _ _ n _ _ _=_;unfold qgU;rw [dF (by omega)]; rfl) s.length 0 (s.length+1) [] (by omega) (by omega) (by show 0+_≤room; unfold room; omega)
 rw [yw,qkI,yc,List.nil_append,qkH] at this;exact this⟩
def valF:Nat→Nat→UInt8→Int×Bool
 | 0,_,_=>(0,false)
 | d+1,n,c=>bif z138 (n:Int)==c then ((n:Int),true) else valF d (n+1) c
theorem qEr (m:Nat) (c:UInt8):∀ (d i n:Nat),i+d=64→d < n→qku qeY (qge m) n c (i:Nat)=qeY (valF d i c).1 (valF d i c).2
 | d,i,0,hi,hn=>by omega
 | 0,i,n+1,hi,hn=>by
  show qex _ _ _ n _ _=_;unfold qex;rw [dF (by omega)]; rfl
 | d+1,i,n+1,hi,hn=>by
  show qex _ _ _ n _ _=_;unfold qex;rw [dT (by omega),yc,qf (by omega),qEr m c d (i+1) n (by omega) (by omega)];show _=qeY (bif z138 (i:Int)==c then ((i:Int),true) else valF d (i+1) c).1 (bif z138 (i:Int)==c then ((i:Int),true) else valF d (i+1) c).2;cases (z138 (i:Int)==c) <;> rfl
theorem qOg:∀ i:Fin 256,(valF 64 0 (UInt8.ofNat i.val)==z121 (UInt8.ofNat i.val))=true:=by decide +kernel
theorem qJr:∀ (c0:UInt8),∃ n,qvU n c0=qeY (z110 c0).1 (z110 c0).2:=fun c=>⟨65,by
 have h:=qce (P:=fun c=>(valF 64 0 c==z121 c)=true) qOg c;rw [beq_iff_eq] at h;unfold qvU z110;rw [← h];exact qEr 65 c 64 0 65 rfl (by omega)⟩
theorem qhn (j:Nat) (s:LU) (hl:s.length≤1048576):∀ (d i n:Nat) (out:LU) (k:Nat),i+d=s.length→d < n→out.length≤i→k≤i →
 qte (qkw j) n s out (k:Int) (i:Nat)=qkv (out++digB (s.drop i)) ((k+((((s.drop i).takeWhile fun c=>c != 61).filter fun c => !(isB64 c)).length):Nat):Int)
 | d,i,0,out,k,hi,hn,_,_=>by omega
 | 0,i,n+1,out,k,hi,hn,_,_=>by
  obtain rfl:i=s.length:=by omega
  show qgY _ _ n _ _ _ _=_;unfold qgY;rw [dF (by omega),yd,List.drop_length];show qkv out (k:Int)=qkv (out++[]) _;rw [yG]; rfl
 | d+1,i,n+1,out,k,hi,hn,ho,hk=>by
  show qgY _ _ n _ _ _ _=_;unfold qgY;have hlt:i < s.length:=by omega
  have hr:out.length+([s.getD i 0]:LU).length≤room:=by show out.length+1≤room; unfold room; omega
  rw [qab hlt,qwg,List.takeWhile_cons];simp (disch:=omega) only [dT,yc,yi,tn];cases h61:s.getD i 0==61 with
  | true =>
   have hne:(s.getD i 0 != 61)=false:=by rw [bne,h61]; rfl
   rw [hne];show qkv out (k:Int)=qkv (out++[]) _;rw [yG]; rfl
  | false =>
   have hne:(s.getD i 0 != 61)=true:=by rw [bne,h61]; rfl
   rw [hne,yc,if_pos rfl,yd,List.filter_cons,show (z110 (s.getD i 0)).2=isB64 (s.getD i 0) from rfl];cases hv:isB64 (s.getD i 0) with
   | true =>
    rw [yc,qf (by omega),qhn j s hl d (i+1) n _ k (by omega) (by omega) (by rw [yn]; show out.length+1≤_; omega) (by omega),yl];rfl
   | false =>
    rw [yd,qf (by omega),qf (by omega),qhn j s hl d (i+1) n out (k+1) (by omega) (by omega) (by omega) (by omega)];simp only [Bool.not_false,if_true,yg,yd];rw [show k+1+((((s.drop (i+1)).takeWhile fun c=>c != 61).filter fun c => !(isB64 c)).length)=k+(((((s.drop (i+1)).takeWhile fun c=>c != 61).filter fun c => !(isB64 c)).length)+1) by omega]
theorem qOh:∀ (s0:LU),(qFE s0=true)→∃ n,qMW n s0=qkv (z70 s0).1 (z70 s0).2:=fun s h=>⟨s.length+1,by
 have hl:=qd h;have:=qhn (s.length+1) s hl s.length 0 (s.length+1) [] 0 (by omega) (by omega) (by simp) (yv 0);rw [yw,List.nil_append,yE] at this;exact this⟩
theorem qJs:∀ i:Fin 64,([Int.tmod (Int.fdiv (i.val:Int) (2 ^ 5)) 2,Int.tmod (Int.fdiv (i.val:Int) (2 ^ 4)) 2,Int.tmod (Int.fdiv (i.val:Int) (2 ^ 3)) 2,Int.tmod (Int.fdiv (i.val:Int) (2 ^ 2)) 2,Int.tmod (Int.fdiv (i.val:Int) (2 ^ 1)) 2,Int.tmod (Int.fdiv (i.val:Int) (2 ^ 0)) 2]:LI)=qbL (i.val:Int):=by decide +kernel
theorem qOi (k2:LU→LI→Int→OA) (n:Nat) (s:LU) (out:LI) (i5:Int) (v:Nat) (hv:v < 64) (ho:out.length+6≤room):qlf k2 (n+7) s out i5 (v:Int) 5=k2 s (out++qbL (v:Int)) i5:=by
 have h6:=qJs ⟨v,hv⟩;have hr:∀ (o:LI) (y:Int),o.length+1≤room→decide (o.length+([y]:LI).length≤room)=true:=fun o y h=>yo h;have step:∀ (q:Nat) (o:LI) (k:Nat),o.length+1≤room→k < 6→qlf k2 (q+1) s o i5 (v:Int) (k:Int)=qlf k2 q s (o++[Int.tmod (Int.fdiv (v:Int) (2 ^ (min (Int.toNat (k:Int)) (IntKind.bits .i64)))) 2]) i5 (v:Int) (IntKind.wrap .i64 ((k:Int) - 1)):=fun q o k ho hk=>by
  show qoA _ _ q _ _ _ _ _=_;unfold qoA;rw [dT (show (0:Int)≤(k:Int) by omega),hr _ _ ho]; rfl
 have e:qlf k2 (n+7) s out i5 (v:Int) ((5:Nat):Int)=k2 s (out++qbL (v:Int)) i5:=by
  rw [step (n+6) _ 5 (by omega) (by omega),show IntKind.wrap .i64 (((5:Nat):Int) - 1)=((4:Nat):Int) from rfl,step (n+5) _ 4 (by simp; omega) (by omega),show IntKind.wrap .i64 (((4:Nat):Int) - 1)=((3:Nat):Int) from rfl,
   step (n+4) _ 3 (by simp; omega) (by omega),show IntKind.wrap .i64 (((3:Nat):Int) - 1)=((2:Nat):Int) from rfl,step (n+3) _ 2 (by simp; omega) (by omega),show IntKind.wrap .i64 (((2:Nat):Int) - 1)=((1:Nat):Int) from rfl,
   step (n+2) _ 1 (by simp; omega) (by omega),show IntKind.wrap .i64 (((1:Nat):Int) - 1)=((0:Nat):Int) from rfl,step (n+1) _ 0 (by simp; omega) (by omega)]
  show k2 s _ i5=_;rw [yl,yl,yl,yl,yl,← h6];rfl
 exact e
theorem qlU (j:Nat) (s:LU) (hl:s.length≤1048576):∀ (d i n:Nat) (out:LI),i+d=s.length→d+8 < n→out.length≤6*i →
 qoC qdM (qfa j) n s out (i:Nat)=bif (s.drop i).all isB64 then qdM (out++bitsB (s.drop i)) true else qdM [] false
 | d,i,0,out,hi,hn,_=>by omega
 | 0,i,n+1,out,hi,hn,_=>by
  obtain rfl:i=s.length:=by omega
  show qeZ _ _ _ n _ _ _=_;unfold qeZ;rw [dF (by omega),yd,List.drop_length];show qdM out true=qdM (out++[]) true;rw [yG]
 | d+1,i,n+1,out,hi,hn,ho=>by
  show qeZ _ _ (qoC qdM (qfa j) n) n _ _ _=_;unfold qeZ;have hlt:i < s.length:=by omega
  rw [qab hlt,List.all_cons];simp (disch:=omega) only [dT,yc,yi,tn];rw [show (z110 (s.getD i 0)).2=isB64 (s.getD i 0) from rfl];cases hv:isB64 (s.getD i 0) with
  | false=>rfl
  | true =>
   obtain ⟨v,hv1,hv2⟩:=qEg (s.getD i 0);obtain ⟨n',rfl⟩:∃ n',n=n'+7:=⟨n - 7,by omega⟩;rw [Bool.not_true,yd,y5,show (z110 (s.getD i 0)).1=(v:Int) from hv1,qOi _ _ _ _ _ v hv2 (by unfold room; omega)];show qoC qdM (qfa j) (n'+7) s (out++qbL (v:Int)) (IntKind.wrap .i64 (((i:Nat):Int)+1))=_;rw [qf (by omega),qlU j s hl d (i+1) (n'+7) _ (by omega) (by omega) (by rw [yn]; show out.length+6≤_; omega),yl];have e:bitsB (s.getD i 0 :: s.drop (i+1))=qbL (v:Int)++bitsB (s.drop (i+1)):=by rw [← hv1]; rfl
   rw [e]
theorem qOj:∀ (s0:LU),(qxd s0=true)→∃ n,qMX n s0=qdM (z71 s0).1 (z71 s0).2:=fun s h=>⟨s.length+9,by
 have hl:=qd h;have:=qlU (s.length+9) s hl s.length 0 (s.length+9) [] (by omega) (by omega) (by simp);rw [yw,List.nil_append] at this;refine this.trans ?_;unfold z71;cases s.all isB64 <;> rfl⟩
theorem qlV (j:Nat) (l:LI) (hl:l.length≤16777216):∀ (d i n:Nat) (out:LU),8*i≤l.length→l.length / 8=i+d→d < n→out=octs i l→qtf (qha j) n l out ((8*i:Nat):Int)=qDR (z72 l).1 (z72 l).2
 | d,i,0,out,h8,hi,hn,_=>by omega
 | 0,i,n+1,out,h8,hi,hn,ho=>by
  show qgZ _ _ n _ _ _=_;unfold qgZ qcL;rw [show IntKind.wrap .i64 (((8*i:Nat):Int)+8)=((8*i+8:Nat):Int) by rw [IntWalk.i64_in _ (by omega)]; omega,dF (by omega),yd];unfold qha;have hok:qfE (List.drop (Int.toNat ((8*i:Nat):Int)) (List.take (Int.toNat ((l.length:Nat):Int)) l))=true:=by
   unfold qfE;rw [tn,tn,List.take_length];exact yo (by rw [yK]; omega)
  rw [hok,tn,tn,List.take_length];simp (disch:=omega) only [dT,yc,yi];unfold z72;rw [hi,ho,Nat.add_zero,Nat.mul_comm i 8]
 | d+1,i,n+1,out,h8,hi,hn,ho=>by
  show qgZ _ _ n _ _ _=_;unfold qgZ qcL;have hol:out.length=i:=by rw [ho,qrJ]
  have e8:IntKind.wrap .i64 (((8*i:Nat):Int)+8)=((8*(i+1):Nat):Int):=by rw [IntWalk.i64_in _ (by omega)]; omega
  rw [e8,tn,tn];have hok:qfE (List.drop (8*i) (List.take (8*(i+1)) l))=true:=by
   unfold qfE;exact yo (by rw [yK,yz]; omega)
  have hr:∀ y:UInt8,out.length+([y]:LU).length≤room:=fun y=>by show out.length+1≤room; unfold room; omega
  rw [hok];simp (disch:=omega) only [dT,yc,yi];rw [dT (hr _),yc];refine qlV j l hl d (i+1) n _ (by omega) (by omega) (by omega) ?_;have e:octs (i+1) l=octs i l++[oct8 (z111 ((l.drop (8*i)).take 8))]:=by
   have h1:l=l.take (8*i)++l.drop (8*i):=(yX _ _).symm;have hlen:(l.take (8*i)).length=8*i:=by rw [yz]; omega
   have h2:octs (i+1) l=octs (i+1) (l.take (8*i)++l.drop (8*i)):=by rw [← h1]
   have h3:octs i l=octs (i+0) (l.take (8*i)++l.drop (8*i)):=by rw [← h1]; rfl
   rw [h2,h3,qjh i 1 _ _ hlen,qjh i 0 _ _ hlen];simp [octs]
  rw [e,ho,List.drop_take,show 8*(i+1) - 8*i=8 by omega];rfl
theorem qOk:∀ (l0:LI),(qxe l0=true)→∃ n,qMY n l0=qDR (z72 l0).1 (z72 l0).2:=fun l h=>⟨l.length / 8+1,by
 have hl:l.length≤16777216:=of_decide_eq_true h;exact qlV (l.length / 8+1) l hl (l.length / 8) 0 (l.length / 8+1) [] (by omega) (by omega) (by omega) rfl⟩
theorem qOl:∀ (s0:LU),(qFF s0=true)→∃ n,qMZ n s0=qKB (z43 s0).1 (z43 s0).2:=fun s h=>⟨0,by
 have hl:=qd h;have hd:=qAj s;have hall:(digB s).all isB64=true:=List.all_eq_true.2 fun c hc=>(List.mem_filter.1 hc).2;have eD:(z70 s).1=digB s:=rfl;have eV:(z71 (digB s)).1=bitsB (digB s):=by unfold z71; rw [hall]; rfl
 unfold qMZ;rw [show qFE s=true from h,eD,show qxd (digB s)=true from qi (by omega),eV,show qxe (bitsB (digB s))=true from yo (by rw [qig]; omega)];rfl⟩
theorem qqR (m:Nat) (s:LU) (hl:s.length≤1048576):∀ (n i:Nat) (out:LU) (k:Nat),s.length - i < n→out.length+(qwS 0 (s.drop i)).1.length≤1048576→k+(qwS 0 (s.drop i)).2≤1048576 →
 qth (qkA m) n s out (k:Int) (i:Int)=qqB (out++(qwS 0 (s.drop i)).1) ((k+(qwS 0 (s.drop i)).2:Nat):Int)
 | 0,i,out,k,hn,_,_=>by omega
 | n+1,i,out,k,hn,ho,hk=>by
  show qoD _ _ n _ _ _ _=_;unfold qoD
  by_cases hlt:i < s.length
  ·have hst:qwS 0 (s.drop i)=bif (z144 s (i:Int) 61).2 then ((z144 s (i:Int) 61).1 :: (qwS 0 (s.drop (i+3))).1,(qwS 0 (s.drop (i+3))).2)
    else ((bif s.getD i 0==95 then 32 else s.getD i 0) :: (qwS 0 (s.drop (i+1))).1,(qwS 0 (s.drop (i+1))).2+(bif s.getD i 0==61 then 1 else 0)):=by
    rw [qkJ,qab hlt];show (bif (z144 (s.getD i 0 :: s.drop (i+1)) 0 61).2 then _ else _)=_;rw [qts 2,List.drop_drop,show i+1+2=i+3 by omega]
   have hok:qFv s (i:Int) 61=true:=qi hl;have eT:z73 s (i:Int) 61=z144 s (i:Int) 61:=rfl;rw [hok,eT];have hroom:∀ y:UInt8,out.length+1≤1048576→decide (out.length+([y]:LU).length≤room)=true:=fun y hy=>by refine yo ?_; show out.length+1≤room; unfold room; omega
   rw [dT (show ((i:Nat):Int) < ((s.length:Nat):Int) by omega),dT (show (0:Int)≤((i:Nat):Int) by omega),tn];simp only [yc,yi];cases ht:(z144 s (i:Int) 61).2 with
   | true =>
    rw [ht,yc] at hst;rw [hst] at ho hk ⊢;simp only [yg] at ho hk;rw [yc,hroom _ (by omega),yc,show IntKind.wrap .i64 (IntKind.wrap .i64 ((i:Int)+2)+1)=((i+3:Nat):Int) by rw [IntWalk.i64_in ((i:Int)+2) (by omega),IntWalk.i64_in _ (by omega)]; omega,
     qqR m s hl n (i+3) _ k (by omega) (by rw [yn]; show out.length+1+_≤_; omega) hk,yl]
    rfl
   | false =>
    rw [ht,yd] at hst;rw [yd];cases h95:s.getD i 0==95 with
    | true =>
     have h61:(s.getD i 0==61)=false:=by rw [beq_iff_eq.1 h95]; rfl
     rw [h95,h61,yc,yd,Nat.add_zero] at hst;rw [hst] at ho hk ⊢;simp only [yg] at ho hk;rw [yc,hroom 32 (by omega),yc,qf (by omega),qqR m s hl n (i+1) _ k (by omega) (by rw [yn]; show out.length+1+_≤_; omega) hk,yl];rfl
    | false =>
     rw [yd];cases h61:s.getD i 0==61 with
     | true =>
      rw [h95,h61,yd,yc,beq_iff_eq.1 h61] at hst;rw [hst] at ho hk ⊢;simp only [yg] at ho hk;rw [yc,hroom 61 (by omega),yc,qf (by omega),qf (by omega),
       qqR m s hl n (i+1) _ (k+1) (by omega) (by rw [yn]; show out.length+1+_≤_; omega) (by omega),yl]
      rw [show k+1+(qwS 0 (s.drop (i+1))).2=k+((qwS 0 (s.drop (i+1))).2+1) by omega];rfl
     | false =>
      rw [h95,h61,yd,yd,Nat.add_zero] at hst;rw [hst] at ho hk ⊢;simp only [yg] at ho hk;rw [yd,hroom _ (by omega),yc,qf (by omega),qqR m s hl n (i+1) _ k (by omega) (by rw [yn]; show out.length+1+_≤_; omega) hk,yl];rfl
  ·rw [dF (by omega),yd,yA (by omega)];show qqB out (k:Int)=qqB (out++[]) _;rw [yG]; rfl
theorem qOm:∀ (s0:LU),(qxf s0=true)→∃ n,qNb n s0=qqB (z44 s0).1 (z44 s0).2:=fun s h=>⟨s.length+1,by
 have hl:=qd h;have h1:=qji s 0;have h2:=qkK s 0;have:=qqR (s.length+1) s hl (s.length+1) 0 [] 0 (by omega) (by rw [yw]; show 0+_≤_; omega) (by rw [yw]; omega);rw [yw,List.nil_append,yE] at this;exact this⟩
theorem qlW (j:Nat) (s:LU) (hl:s.length≤1048576):∀ (d i n:Nat),i+d=s.length→d < n →
 qtk qhE (qfb j) n s (i:Nat)=bif (s.drop i).all (fun c=>z36 c 4&&c != 63) then qfb j s else qhE 3
 | d,i,0,hi,hn=>by omega
 | 0,i,n+1,hi,hn=>by
  obtain rfl:i=s.length:=by omega
  show qhj _ _ _ n _ _=_;unfold qhj;rw [dF (by omega),yd,List.drop_length]; rfl
 | d+1,i,n+1,hi,hn=>by
  show qhj _ _ _ n _ _=_;unfold qhj;have hlt:i < s.length:=by omega
  have ih:=qlW j s hl d (i+1) n (by omega) (by omega);rw [qab hlt,List.all_cons];simp (disch:=omega) only [dT,yc,yi,tn,qf];rw [ih,show z79 (s.getD i 0) 4=z36 (s.getD i 0) 4 from rfl];cases z36 (s.getD i 0) 4
  ·rfl
  ·cases h:s.getD i 0==63 with
   | true=>rw [show (s.getD i 0 != 63)=false by rw [bne,h]; rfl]; rfl
   | false=>rw [show (s.getD i 0 != 63)=true by rw [bne,h]; rfl]; rfl
theorem qOn (s:LU):s.all (fun c=>z36 c 4&&c != 63)=(s.all (fun c=>z36 c 4) && !(s.contains 63)):=by
 induction s with
 | nil=>rfl
 | cons c r ih =>
  rw [List.all_cons,List.all_cons,ih,List.contains_cons];cases z36 c 4
  ·rfl
  ·cases h:(63:UInt8)==c with
   | true =>
    have:(c != 63)=false:=by rw [beq_iff_eq] at h; subst h; rfl
    rw [this]; simp
   | false =>
    have:(c != 63)=true:=by rw [yB] at h; simpa using fun e=>h e.symm
    rw [this]; simp
theorem qOo:∀ (s0:LU),(qFI s0=true)→∃ n,qNi n s0=qhE (z48 s0):=fun s h=>⟨s.length+1,by
 have hl:=qd h;have:=qlW (s.length+1) s hl s.length 0 (s.length+1) (by omega) (by omega);rw [yw,qOn] at this;refine this.trans ?_;unfold qfb;show _=qhE (bif !(s.all fun c=>z36 c 4)||(s.contains 63||decide (0 < (qwS 0 s).2)) then 3 else 0);rw [show qxf s=true from h,show decide ((0:Int) < (z44 s).2)=decide (0 < (qwS 0 s).2) from by
  show decide ((0:Int) < ((qwS 0 s).2:Int))=_
  by_cases h:0 < (qwS 0 s).2
  ·rw [dT (by omega),yo h]
  ·rw [dF (by omega),yx h]]
 cases (s.all fun c=>z36 c 4) <;> cases s.contains 63 <;> cases decide (0 < (qwS 0 s).2) <;> rfl⟩
theorem qJt {s:LU} {e:Nat} (he:e < s.length):(s.take (e+1)).getLast? = some (s.getD e 0)∧(s.take (e+1)).dropLast=s.take e:=by
 rw [← qwd he];exact ⟨by simp,by simp⟩
theorem qEs (j:Nat) (s:LU) (hl:s.length≤1048576) (n e k:Nat) (he:e≤s.length) (hk:k < 2):qlg (qbV j) (n+1) s (e:Int) (k:Int) =
 bif (s.take e).getLast? == some 61 then qlg (qbV j) n s ((e - 1:Nat):Int) ((k+1:Nat):Int) else qbV j s (e:Int):=by
 show qhi _ _ n _ _ _=_;unfold qhi;rw [dT (show (k:Int) < 2 by omega),yc];match e,he with
 | 0,_=>rfl
 | e+1,he =>
  have h1:=qJt (s:=s) (e:=e) (by omega);rw [dT (show (0:Int) < ((e+1:Nat):Int) by omega),yc,show IntKind.wrap .i64 (((e+1:Nat):Int) - 1)=((e:Nat):Int) by rw [IntWalk.i64_in _ (by omega)]; omega,tn,h1.1,
   dT (show (0:Int)≤(e:Int) by omega),dT (show (e:Int) < ((s.length:Nat):Int) by omega),qf (by omega)]
  show (bif s.getD e 0==61 then _ else _)=bif (some (s.getD e 0)==some 61) then _ else _
  rw [show (some (s.getD e 0)==some (61:UInt8))=(s.getD e 0==61) from rfl];cases s.getD e 0==61 <;> rfl
theorem qOp (j:Nat) (s:LU) (hl:s.length≤1048576):∃ e:Nat,qlg (qbV j) 3 s ((s.length:Nat):Int) 0=qbV j s (e:Int)∧e≤s.length∧s.take e=bodyB s:=by
 have h0:=qEs j s hl 2 s.length 0 (yv _) (by omega);rw [List.take_length] at h0;rw [show ((0:Nat):Int)=0 from rfl] at h0;unfold bodyB;cases hg:s.getLast? == some 61 with
 | false =>
  rw [hg] at h0;refine ⟨s.length,h0,yv _,?_⟩;rw [List.take_length];simp only [yd];rw [hg]; rfl
 | true =>
  rw [hg,yc] at h0;have hne:s≠[]:=by rintro rfl; cases hg
  have hpos:=List.length_pos_iff.2 hne;have hdl:s.dropLast=s.take (s.length - 1):=by rw [List.dropLast_eq_take]
  have h1:=qEs j s hl 1 (s.length - 1) 1 (by omega) (by omega);rw [← hdl] at h1;rw [h1] at h0;have hlen:(s.dropLast.length != s.length)=true:=by rw [bne_iff_ne,List.length_dropLast]; omega
  simp only [yc];rw [hlen,yi];cases hg2:s.dropLast.getLast? == some 61 with
  | false =>
   rw [hg2] at h0;exact ⟨s.length - 1,h0,by omega,hdl.symm⟩
  | true =>
   rw [hg2,yc] at h0;refine ⟨s.length - 1 - 1,?_,by omega,?_⟩
   ·rw [h0];show qhi _ _ 0 _ _ _=_;unfold qhi;rw [dF (show ¬ ((1+1:Nat):Int) < 2 by omega),yd]
   ·rw [yc,List.dropLast_eq_take,hdl,List.take_take,yz];congr 1;omega
theorem qOq:∀ (s0:LU),(qFC s0=true)→∃ n,qNh n s0=qlN (z47 s0).1 (z47 s0).2:=fun s h=>⟨3,by
 have hl:=qd h;obtain ⟨e,h1,h2,h3⟩:=qOp 3 s hl;refine (show _=qlg (qbV 3) 3 s ((s.length:Nat):Int) 0 from rfl).trans (h1.trans ?_);unfold qbV qbF;have hb:=qEi s;rw [tn,tn,yw,h3,tmod4,show qxd (bodyB s)=true from qi (by omega)];simp (disch:=omega) only [dT,yc,yi];show _=qlN (z89 s).1 (z89 s).2;unfold z71 z89;cases (bodyB s).all isB64 with
 | false=>rfl
 | true =>
  simp only [yc,Bool.not_true,yd];rw [show qxe (bitsB (bodyB s))=true from yo (by rw [qig]; omega)];cases (s.length % 4 != 0)
  ·cases (z72 (bitsB (bodyB s))).2 <;> rfl
  ·rfl⟩
theorem qho (j:Nat) (s:LU) (hl:s.length≤1048576):∀ (d n e:Nat),d≤s.length→d < n→e=d+((s.drop d).takeWhile fun c=>c != 42).length →
 qtc (qeW j) n s (e:Int) ((d:Int) - 1)=qeW j s (((s.takeWhile fun c=>c != 42).length:Nat):Int)
 | d,0,e,hd,hn,_=>by omega
 | 0,n+1,e,hd,hn,he=>by
  show qgW _ _ n _ _ _=_;unfold qgW;rw [show decide ((0:Int)≤((0:Nat):Int) - 1)=false from rfl,yd,he,yw,yE]
 | d+1,n+1,e,hd,hn,he=>by
  show qgW _ _ n _ _ _=_;unfold qgW;have hlt:d < s.length:=by omega
  rw [show ((d+1:Nat):Int) - 1=((d:Nat):Int) by omega,tn];simp (disch:=omega) only [dT,yc,yi];rw [show IntKind.wrap .i64 ((d:Int) - 1)=(d:Int) - 1 from IntWalk.i64_in _ (by omega)];have hdc:=qab hlt;cases h:s.getD d 0==42 with
  | true =>
   have hne:(s.getD d 0 != 42)=false:=by rw [bne,h]; rfl
   rw [yc];exact qho j s hl d n d (by omega) (by omega) (by rw [hdc,List.takeWhile_cons,hne]; rfl)
  | false =>
   have hne:(s.getD d 0 != 42)=true:=by rw [bne,h]; rfl
   rw [yd];exact qho j s hl d n e (by omega) (by omega) (by rw [hdc,List.takeWhile_cons,hne,if_pos rfl,yg,he]; omega)
theorem qqS (p:UInt8→Bool):∀ s:LU,s.take (s.takeWhile p).length=s.takeWhile p
 | []=>rfl
 | x :: r=>by
  rw [List.takeWhile_cons];cases p x with
  | false=>rfl
  | true=>simp only [if_true,yg,List.take_succ_cons]; rw [qqS p r]
theorem qOr:∀ (s0:LU),(qFA s0=true)→∃ n,qId n s0=qKA (z77 s0):=fun s h=>⟨s.length+1,by
 have hl:=qd h;have hw:=qcd (fun c:UInt8=>c != 42) s;unfold qId;rw [show IntKind.wrap .i64 (((s.length:Nat):Int) - 1)=((s.length:Nat):Int) - 1 from IntWalk.i64_in _ (by omega)];refine (qho (s.length+1) s hl s.length (s.length+1) s.length (yv _) (by omega) (by rw [List.drop_length]; rfl)).trans ?_;unfold qeW;rw [tn,tn,yw,qqS,show qwv (s.takeWhile fun c=>c != 42)=true from qi (by omega)];simp (disch:=omega) only [dT,yc,yi];rfl⟩
theorem qqT (ret:Int→Int→OA) (k2:LU→Int→OA) (b:LU) (n5:Int) (l:List LU) (hl:l.length≤100):∀ (d i n:Nat),i+d=l.length→d < n →
 qtd ret k2 n b n5 l (i:Nat)=bif (l.drop i).any (fun x=>x==b) then ret n5 0 else k2 b n5
 | d,i,0,hi,hn=>by omega
 | 0,i,n+1,hi,hn=>by
  obtain rfl:i=l.length:=by omega
  show qgX _ _ _ n _ _ _ _=_;unfold qgX;rw [dF (by omega),yd,List.drop_length]; rfl
 | d+1,i,n+1,hi,hn=>by
  show qgX _ _ _ n _ _ _ _=_;unfold qgX;have hlt:i < l.length:=by omega
  have ih:=qqT ret k2 b n5 l hl d (i+1) n (by omega) (by omega);have e:l.drop i=l.getD i [] :: l.drop (i+1):=by
   rw [List.drop_eq_getElem_cons hlt,yY,yO hlt]; rfl
  rw [e,List.any_cons];simp (disch:=omega) only [dT,yc,yi,tn,qf];rw [ih];cases (l.getD i []==b) <;> rfl
theorem qcM (b:LU) (n:Int):∀ (l:List LU) (r:List (LU×Int)),qkY b (l.map (fun s=>(s,n))++r)=bif l.any (fun x=>x==b) then some n else qkY b r
 | [],r=>rfl
 | x :: l,r=>by
  show (bif b==x then some n else qkY b (l.map (fun s=>(s,n))++r))=bif (x==b)||l.any (fun x=>x==b) then some n else qkY b r
  rw [qcM b n l r];have hc:(b==x)=(x==b):=by
   cases h:x==b with
   | true=>rw [beq_iff_eq] at h ⊢; exact h.symm
   | false=>rw [yB] at h ⊢; exact fun e=>h e.symm
  rw [hc];cases (x==b) <;> rfl
theorem qJu (n:Int):(z117 n).length≤4:=by
 unfold z117;cases n==1
 ·cases n==2
  ·cases n==3
   ·cases n==4
    ·cases n==5
     ·exact Nat.zero_le _
     ·exact Nat.le_of_ble_eq_true rfl
    ·exact Nat.le_of_ble_eq_true rfl
   ·exact Nat.le_of_ble_eq_true rfl
  ·exact Nat.le_of_ble_eq_true rfl
 ·exact Nat.le_of_ble_eq_true rfl
theorem qOs:∀ (s0:LU),(qxc s0=true)→∃ n,qIe n s0=qaO (z46 s0).1 (z46 s0).2:=fun s h=>⟨20,by
 have hl:=qd h;have hb:=qKG s;unfold qIe;rw [show qFA s=true from h,show qFP (z77 s)=true from qi (by show (z88 s).length≤_; omega)];show qkt qaO (qdg 20) 20 (z87 (z88 s)) 1=qaO (z53 s).1 (z53 s).2;have step:∀ (n:Nat) (v:Nat) (b:LU),v≤5→5 < n→qkt qaO (qdg 20) (n+1) b (v:Int)=bif (z117 (v:Int)).any (fun x=>x==b) then qaO (v:Int) 0 else qkt qaO (qdg 20) n b ((v+1:Nat):Int):=fun n v b hv hn=>by
  show qks _ _ _ n _ _=_;unfold qks;have hnl:=qJu (v:Int);rw [dT (show (v:Int)≤5 by omega),yc];refine (qqT _ _ b (v:Int) (z117 (v:Int)) (by omega) (z117 (v:Int)).length 0 n (by omega) (by omega)).trans ?_;rw [yw];unfold qkr;rw [qf (by omega)]
 have e6:∀ (n:Nat) (b:LU),qkt qaO (qdg 20) (n+1) b ((6:Nat):Int)=qaO 0 10:=fun n b=>rfl;have hL:qkt qaO (qdg 20) 20 (z87 (z88 s)) ((1:Nat):Int)=_:=step 19 1 _ (by omega) (by omega);rw [step 18 2 _ (by omega) (by omega),step 17 3 _ (by omega) (by omega),step 16 4 _ (by omega) (by omega),step 15 5 _ (by omega) (by omega),e6] at hL;refine hL.trans ?_;have hR:qkY (z87 (z88 s)) z86=qkY (z87 (z88 s)) ((z117 1).map (fun s=>(s,(1:Int)))++((z117 2).map (fun s=>(s,(2:Int)))++((z117 3).map (fun s=>(s,(3:Int)))++((z117 4).map (fun s=>(s,(4:Int)))++((z117 5).map (fun s=>(s,(5:Int)))++[]))))):=rfl;unfold z53;rw [hR,qcM,qcM,qcM,qcM,qcM];generalize z87 (z88 s)=b;show (bif (z117 1).any (fun x=>x==b) then qaO 1 0 else bif (z117 2).any (fun x=>x==b) then qaO 2 0 else bif (z117 3).any (fun x=>x==b) then qaO 3 0 else bif (z117 4).any (fun x=>x==b) then qaO 4 0 else bif (z117 5).any (fun x=>x==b) then qaO 5 0 else qaO 0 10)=_;cases (z117 1).any (fun x=>x==b)
 ·cases (z117 2).any (fun x=>x==b)
  ·cases (z117 3).any (fun x=>x==b)
   ·cases (z117 4).any (fun x=>x==b)
    ·cases (z117 5).any (fun x=>x==b) <;> rfl
    ·rfl
   ·rfl
  ·rfl
 ·rfl⟩
theorem qaM (s:LU):(z51 s).1.1.length≤s.length:=by
 have hs:=qih 63 s [];unfold z51;generalize cutC 63 [] s=l at hs ⊢;unfold qkR;split
 ·rename_i a b c d e;simp only [yI,List.map_nil,List.sum_cons,List.sum_nil,List.length_nil] at hs;cases decide (a=[61])&&decide (e=[61])
  ·exact Nat.zero_le _
  ·rw [yc];cases (codeL c==0)||(!(fullB b 64) || !(fullB d 4))
   ·cases decide (75 < s.length)
    ·show b.length≤_; omega
    ·exact Nat.zero_le _
   ·exact Nat.zero_le _
 ·exact Nat.zero_le _
theorem qOt:∀ (s0:LU),(qkZ s0=true)→∃ n,qMH n s0=qDG (z39 s0).1 (z39 s0).2:=fun s h=>⟨0,by
 have hl:=qd h;have h1:=qaM s;have h2:=qfD s;have h3:=qug (z51 s).1;unfold qMH qiw;rw [show qlj s=true from h,show qxg (z51 s).1=true from qi (by omega),show qFO (z51 s).1=true from qi (by omega),
  show qFw (z52 (z51 s).1) (z64 (z51 s).1)=true from qi (by show (octOf _).length≤_; omega)]
 simp only [yi,yc,qar];unfold z39;cases ((z51 s).2 != 0) <;> rfl⟩
theorem qOu:∀ (s0:LU),(qFL s0=true)→∃ n,qMv n s0=qDa (z31 s0):=fun s h=>⟨0,by
 have hl:=qd h;have h1:=qaM s;unfold qMv z31;rw [show qlj s=true from h,show qxg (z51 s).1=true from qi (by omega)];cases ((z51 s).2 != 0) <;> rfl⟩
theorem qOv:∀ (s0:LU),(qFJ s0=true)→∃ n,qMA n s0=qlJ (z33 s0):=fun s h=>⟨0,by
 have hl:=qd h;have h1:=qaM s;have h2:=qfD s;unfold qMA z33;rw [show qlj s=true from h,show qxb (z51 s).1.1=true from qi (by omega),show qFD (z51 s).1.2.2.1=true from qi (by omega),show qFH (z51 s).1.2.2.1=true from qi (by omega)];have hb:((z51 s).2 != 0) = !((z51 s).2==0):=rfl;rw [hb];cases ((z51 s).2==0) <;> cases ((z51 s).1.2.1==1) <;> cases ((z53 (z51 s).1.1).2==0) <;> rfl⟩
theorem qOw:∀ (s0:LU),(qrL s0=true)→∃ n,qMV n s0=qvT (z25 s0):=fun s h=>⟨0,by
 have hl:=qd h;have h1:=qaM s;unfold qMV z25 z31 csOf;rw [show qlk s=true from h,show z42 s=z51 s from rfl,show qxc (z51 s).1.1=true from qi (by omega),show z46 (z51 s).1.1=z53 (z51 s).1.1 from rfl];cases ((z51 s).2 != 0) <;> cases ((z53 (z51 s).1.1).2 != 0) <;> rfl⟩
theorem qOx:∀ (s0:LU),(qFM s0=true)→∃ n,qNg n s0=qvX (z24 s0).1 (z24 s0).2:=fun s h=>⟨0,by
 have hl:=qd h;have h2:=qfD s;have h3:=qps (z51 s).1.2.2.1;have h4:=qji (z51 s).1.2.2.1 0;unfold qNg z24 z39;rw [show qlk s=true from h,show z42 s=z51 s from rfl,show qFF (z51 s).1.2.2.1=true from qi (by omega),show qxf (z51 s).1.2.2.1=true from qi (by omega),show qrL s=true from h,
  show qxa (z25 s) (z43 (z51 s).1.2.2.1).1=true from qi (by show (z107 _).length≤_; omega),show qxa (z25 s) (z44 (z51 s).1.2.2.1).1=true from qi (by show (qwS 0 _).1.length≤_; omega)]
 cases hp:((z51 s).2 != 0) with
 | true=>rfl
 | false =>
  have hc:z25 s=csOf (z51 s).1:=by
   show z31 s=_;unfold z31;rw [hp]; rfl
  rw [hc];unfold octOf;cases ((z51 s).1.2.1==1) <;> rfl⟩
theorem qOy:∀ (s0:LU),(qFK s0=true)→∃ n,qNj n s0=qqG (z26 s0):=fun s h=>⟨0,by
 have hl:=qd h;have h1:=qaM s;have h2:=qfD s;unfold qNj z26 z33;rw [show qlk s=true from h,show z42 s=z51 s from rfl,show qxc (z51 s).1.1=true from qi (by omega),show z46 (z51 s).1.1=z53 (z51 s).1.1 from rfl,
  show qFC (z51 s).1.2.2.1=true from qi (by omega),show qFI (z51 s).1.2.2.1=true from qi (by omega)]
 have hb:((z51 s).2 != 0) = !((z51 s).2==0):=rfl;have hb2:((z53 (z51 s).1.1).2 != 0) = !((z53 (z51 s).1.1).2==0):=rfl;rw [hb,hb2];cases ((z51 s).2==0) <;> cases ((z51 s).1.2.1==1) <;> cases ((z53 (z51 s).1.1).2==0) <;> rfl⟩
theorem qJv:∀ (bufLen0:Int),∃ n,qKm n bufLen0=qDj (z152 bufLen0):=fun _=>⟨0,rfl⟩
theorem qtt (c:Nat) (h:128≤c):2≤(Utf8.encode (c:Int)).size∧(c < 2048→(Utf8.encode (c:Int)).size≤2)∧(c < 65536→(Utf8.encode (c:Int)).size≤3)∧(Utf8.encode (c:Int)).size≤4:=by
 by_cases hv:Utf8.valid (c:Int)=true
 ·have hc:(c:Int).toNat=c:=by omega
  unfold Utf8.encode;simp only [hv,if_true,hc];rw [if_neg (by omega)];split
  ·refine ⟨?_,?_,?_,?_⟩ <;> simp [ByteArray.size]
  ·split
   ·refine ⟨?_,?_,?_,?_⟩ <;> simp [ByteArray.size] <;> omega
   ·refine ⟨?_,?_,?_,?_⟩ <;> simp [ByteArray.size] <;> omega
 ·have hn:2048≤c:=by
   rcases Nat.lt_or_ge c 2048 with h2 | h2
   ·exact absurd (by unfold Utf8.valid; simp; omega) hv
   ·exact h2
  have hv':Utf8.valid (c:Int)=false:=by simpa using hv
  have he:Utf8.encode (c:Int)=⟨#[239,191,189]⟩:=by
   unfold Utf8.encode;simp only [hv',yq,if_false];decide
  rw [he];refine ⟨?_,?_,?_,?_⟩ <;> simp [ByteArray.size] <;> omega
theorem qwl (c:Nat) (h:128≤c):∃ e r,(Utf8.encode (c:Int)).data.toList=e :: r∧128≤e.toNat:=by
 unfold Utf8.encode;generalize hg:(if Utf8.valid (c:Int)=true then (c:Int).toNat else Utf8.runeError)=x;have hx:128≤x∧x≤1114111:=by
  split at hg
  ·rename_i hv;unfold Utf8.valid at hv;simp only [Bool.or_eq_true,yf,ym] at hv;omega
  ·unfold Utf8.runeError at hg; omega
 simp only [if_neg (show ¬ x < 128 by omega)];split
 ·exact ⟨_,_,rfl,by simp; omega⟩
 ·split
  ·exact ⟨_,_,rfl,by simp; omega⟩
  ·exact ⟨_,_,rfl,by simp; omega⟩
theorem qJw (p:LU) (hp:0 < p.length) (h0:128≤(p.getD 0 0).toNat):128≤(Lib.decodeL p).1∧1≤(Lib.decodeL p).2∧(Lib.decodeL p).2≤p.length∧(∀ j,j < (Lib.decodeL p).2→128≤(p.getD j 0).toNat) ∧
 ((Lib.decodeL p).1≠65533→2≤(Utf8.encode ((Lib.decodeL p).1:Int)).size∧(Utf8.encode ((Lib.decodeL p).1:Int)).size≤(Lib.decodeL p).2):=by
 rw [Lib.decodeL_N];have b0:=qhF (p.getD 0 0);have b1:=qhF (p.getD 1 0);have b2:=qhF (p.getD 2 0);have b3:=qhF (p.getD 3 0);rcases Lib.decodeN_shape p.length (p.getD 0 0).toNat (p.getD 1 0).toNat (p.getD 2 0).toNat (p.getD 3 0).toNat with ⟨h,_⟩ | ⟨h1,h2,h3,h4,e⟩ | ⟨h1,h2,h3,h4,h5,_,e⟩ | ⟨h1,h2,h3,h4,h5,h6,h7,e⟩ | e
 ·omega
 ·rw [e];dsimp only;have hs:=qtt _ h4;refine ⟨h4,by omega,by omega,fun j hj=>?_,fun _=>⟨hs.1,hs.2.1 (by omega)⟩⟩;match j,hj with
  | 0,_=>exact h0
  | 1,_=>omega
  | n+2,hj=>omega
 ·rw [e];dsimp only;have hs:=qtt (((p.getD 0 0).toNat % 16)*4096+(p.getD 1 0).toNat % 64*64+(p.getD 2 0).toNat % 64) (by omega);refine ⟨by omega,by omega,by omega,fun j hj=>?_,fun _=>⟨hs.1,hs.2.2.1 (by omega)⟩⟩;match j,hj with
  | 0,_=>exact h0
  | 1,_=>omega
  | 2,_=>omega
  | n+3,hj=>omega
 ·rw [e];dsimp only;have hs:=qtt (((p.getD 0 0).toNat % 8)*262144+(p.getD 1 0).toNat % 64*4096+(p.getD 2 0).toNat % 64*64+(p.getD 3 0).toNat % 64) (by omega);refine ⟨by omega,by omega,by omega,fun j hj=>?_,fun _=>⟨hs.1,hs.2.2.2⟩⟩;match j,hj with
  | 0,_=>exact h0
  | 1,_=>omega
  | 2,_=>omega
  | 3,_=>omega
  | n+4,hj=>omega
 ·rw [e];dsimp only;refine ⟨by omega,by omega,by omega,fun j hj=>?_,fun h=>absurd rfl h⟩;match j,hj with
  | 0,_=>exact h0
  | n+1,hj=>omega
theorem qkN {cs:LU} (ha:ascii cs=true) {i:Nat} (hi:i < cs.length):(cs.getD i 0).toNat < 128:=by
 unfold ascii at ha;rw [List.all_eq_true] at ha;have:=ha (cs.getD i 0) (by simp [List.getD,hi]);simp only [ym] at this;exact this
theorem qwm {cs:LU} (ha:ascii cs=true) {x:UInt8} (hx:128≤x.toNat):cs.contains x=false:=by
 cases h:cs.contains x with
 | false=>rfl
 | true =>
  unfold ascii at ha;rw [List.all_eq_true] at ha;have:=ha x (by simpa using h);simp only [ym] at this;have:x.toNat < 128:=this;omega
theorem qqU {cs:LU} (ha:ascii cs=true) {i:Nat} (hi:i < cs.length):decL cs i=(((cs.getD i 0).toNat:Int),1):=by
 unfold decL;rw [Lib.decode_N];rw [Lib.decodeN_ascii _ _ _ _ _ (by simpa using qkN ha hi)]
theorem qtu {cs:LU} (ha:ascii cs=true) (c:Nat) (hc:128≤c):Lib.index cs (Utf8.encode (c:Int)).data.toList = -1:=by
 obtain ⟨e,r,he,h1⟩:=qwl c hc;rw [he];refine Lib.index_none fun j _=>?_;unfold Lib.occAt;cases hd:cs.drop j with
 | nil=>rfl
 | cons x t =>
  have hj:j < cs.length:=by
   rcases Nat.lt_or_ge j cs.length with h | h
   ·exact h
   ·rw [yA h] at hd; cases hd
  have hx:x=cs.getD j 0:=by
   rw [qC (d:=0) hj] at hd;exact (List.cons.inj hd).1.symm
  have:=qkN ha hj;rw [← hx] at this;have hne:(e==x)=false:=by
   rw [yB];rintro rfl;omega
  simp [List.isPrefixOf,hne]
theorem qyK {cs:LU} (ha:ascii cs=true) (hn:cs≠[]) (c:Nat) (hc:128≤c):(cs==(Utf8.encode (c:Int)).data.toList)=false:=by
 obtain ⟨e,r,he,h1⟩:=qwl c hc;rw [he,yB];rintro rfl;have:=qkN ha (i:=0) (by simp);simp at this;omega
theorem qEt (cs:LU):∀ (w:Nat) (p:LU) (i:Int),w≤p.length→(∀ j,j < w→cs.contains (p.getD j 0)=false)→anyAt cs p i=anyAt cs (p.drop w) (i+w)
 | 0,p,i,_,_=>by simp
 | w+1,[],i,h,_=>by simp at h
 | w+1,x :: p,i,h,hc=>by
  have h0:=hc 0 (by omega);simp only [List.getD_cons_zero] at h0;have ih:=qEt cs w p (i+1) (by simpa using h) (fun j hj=>by have:=hc (j+1) (by omega); simpa using this);show (bif cs.contains x then i else anyAt cs p (i+1))=anyAt cs (p.drop w) (i+((w+1:Nat):Int));rw [h0,yd,ih];congr 1;omega
variable (m0:Int)
theorem qSX (ret:Int→OA) (k0:OA) (cs:LU) (ha:ascii cs=true):∀ (d i n:Nat),i+d=cs.length→d < n→qfR m0 ret k0 n cs i=k0
 | d,i,0,hi,hn=>by omega
 | 0,i,n+1,hi,hn=>by
  show qef m0 ret k0 (qfR m0 ret k0 n) n cs i=_;unfold qef;rw [yx (by omega)];rfl
 | d+1,i,n+1,hi,hn=>by
  show qef m0 ret k0 (qfR m0 ret k0 n) n cs i=_;unfold qef;have hlt:i < cs.length:=by omega
  have hx:=qkN ha hlt;rw [yo hlt,qqU ha hlt,yc,yc,yc,show ((((cs.getD i 0).toNat:Nat):Int)==65533)=false by rw [yB]; omega,yd];exact qSX ret k0 cs ha d (i+1) n (by omega) (by omega)
theorem qKK (ret:Int→OA) (k6:LU→LU→Int→Int→OA) (s cs:LU) (w at1 r:Int) (hr:128≤r) (ha:ascii cs=true):∀ (d i n:Nat),i+d=cs.length→d < n→qbQ m0 ret k6 n s cs w at1 r cs i=k6 s cs w at1
 | d,i,0,hi,hn=>by omega
 | 0,i,n+1,hi,hn=>by
  show qcB m0 ret k6 (qbQ m0 ret k6 n) n s cs w at1 r cs i=_;unfold qcB;rw [yx (by omega)];rfl
 | d+1,i,n+1,hi,hn=>by
  show qcB m0 ret k6 (qbQ m0 ret k6 n) n s cs w at1 r cs i=_;unfold qcB;have hlt:i < cs.length:=by omega
  have hx:=qkN ha hlt;rw [yo hlt,qqU ha hlt,yc,yc,yc,show (r==(((cs.getD i 0).toNat:Nat):Int))=false by rw [yB]; omega,yd];exact qKK ret k6 s cs w at1 r hr ha d (i+1) n (by omega) (by omega)
theorem qKL (ret:Int→OA) (k2:OA) (hk:k2=ret (-1)) (s cs:LU) (hl:s.length≤1048576):∀ (d i n:Nat),i+d=s.length→d < n →
 qcY m0 ret k2 n (setOf cs (List.replicate 256 false)) s (s.length:Nat) (i:Nat)=ret (anyAt cs (s.drop i) i)
 | d,i,0,hi,hn=>by omega
 | 0,i,n+1,hi,hn=>by
  show qcA m0 ret k2 (qcY m0 ret k2 n) n _ s _ _=_;unfold qcA;rw [yx (by omega),yd,yA (by omega),hk];rfl
 | d+1,i,n+1,hi,hn=>by
  show qcA m0 ret k2 (qcY m0 ret k2 n) n _ s _ _=_;unfold qcA z153;have hlt:i < s.length:=by omega
  rw [qfj,yo hlt,yc,qK,y5,yc,qV,qDV _ _ _ List.length_replicate,qf (by omega),qKL ret k2 hk s cs hl d (i+1) n (by omega) (by omega),qC (d:=0) hlt];have:(List.replicate 256 false).getD (s.getD i 0).toNat false=false:=by rw [yY,List.getElem?_replicate]; split <;> rfl
  rw [this,Bool.or_false];show _=ret (bif cs.contains (s.getD i 0) then (i:Int) else anyAt cs (s.drop (i+1)) (i+1));cases cs.contains (s.getD i 0) <;> rfl
set_option maxRecDepth 100000 in
theorem qEu (ret:Int→OA) (k4:OA) (hk:k4=ret (-1)) (s cs:LU) (hl:s.length≤1048576) (ha:ascii cs=true) (hc2:2≤cs.length) (hcl:cs.length≤1048576) (d i n:Nat) (hi:i+d=s.length) (hn:d+cs.length+1 < n) :
 qbR m0 ret k4 n s cs (i:Nat)=ret (anyAt cs (s.drop i) i):=by
 obtain ⟨n,rfl⟩:∃ n',n=n'+1:=⟨n - 1,by omega⟩;show qdG m0 ret k4 (qbR m0 ret k4 n) n s cs (i:Nat)=_;unfold qdG qy;match d,hi,hn with
 | 0,hi,hn =>
  rw [yx (by omega),yd,yA (by omega),hk];rfl
 | d+1,hi,hn =>
  have hlt:i < s.length:=by omega
  have hb:=qhF (s.getD i 0);rw [qfj,yo hlt,yc,qK,y5,yc,yc,qV,qV,List.take_length,IntWalk.i32_in _ (by omega)]
  by_cases h128:(s.getD i 0).toNat < 128
  ·rw [yo (show (((s.getD i 0).toNat:Nat):Int) < 128 by omega),yc,qf (by omega),qEu ret k4 hk s cs hl ha hc2 hcl d (i+1) n (by omega) (by omega),qC (d:=0) hlt];show (bif decide ((0:Int)≤Lib.indexByte cs (s.getD i 0)) then ret i else ret (anyAt cs (s.drop (i+1)) ((i+1:Nat):Int)))=ret (bif cs.contains (s.getD i 0) then (i:Int) else anyAt cs (s.drop (i+1)) (i+1));rw [← Lib.contains_iff_indexByte];cases cs.contains (s.getD i 0) <;> rfl
  ·rw [yx (show ¬ (((s.getD i 0).toNat:Nat):Int) < 128 by omega),yd,yo (show (i:Int)≤((s.length:Nat):Int) by omega),yo (Int.le_refl _)];have hp:0 < (s.drop i).length:=by rw [yK]; omega
   have h0:128≤((s.drop i).getD 0 0).toNat:=by
    rw [qC (d:=0) hlt];simp only [List.getD_cons_zero];omega
   obtain ⟨f1,f2,f3,f4,f5⟩:=qJw (s.drop i) hp h0;rw [show qre (s.drop i)=true by unfold qre; exact yo hp];have hd1:(z154 (s.drop i)).1=((Lib.decodeL (s.drop i)).1:Int):=rfl;have hd2:(z154 (s.drop i)).2=((Lib.decodeL (s.drop i)).2:Int):=rfl;rw [hd1,hd2];obtain ⟨r,hr⟩:∃ r,(Lib.decodeL (s.drop i)).1=r:=⟨_,rfl⟩;obtain ⟨w,hw⟩:∃ w,(Lib.decodeL (s.drop i)).2=w:=⟨_,rfl⟩;rw [hr] at f1 f5;rw [hw] at f2 f3 f4 f5;rw [hr,hw];rw [yK] at f3;have hnext:qbR m0 ret k4 n s cs (IntKind.wrap .i64 ((i:Int)+(w:Int)))=ret (anyAt cs (s.drop i) i):=by
    rw [IntWalk.i64_in _ (by omega),show (i:Int)+(w:Int)=((i+w:Nat):Int) by omega,qEu ret k4 hk s cs hl ha hc2 hcl (d+1 - w) (i+w) n (by omega) (by omega),
     qEt cs w (s.drop i) i (by rw [yK]; exact f3) (fun j hj=>qwm ha (f4 j hj)),List.drop_drop]
    congr 2
   have h48:qbQ m0 ret (qcC m0 ret k4 (qbR m0 ret k4 n) n) n s cs (w:Int) (i:Int) (r:Int) cs 0=ret (anyAt cs (s.drop i) i):=by
    rw [qKK m0 ret _ s cs w i r (by omega) ha cs.length 0 n (by omega) (by omega)];exact hnext
   simp only [Bool.and_self,yc]
   by_cases hre:r=65533
   ·rw [show ((r:Int) != 65533)=false by simp only [bne_eq_false_iff_eq]; omega,yd,h48]
   ·obtain ⟨e1,e2⟩:=f5 hre;rw [show ((r:Int) != 65533)=true by simp only [bne_iff_ne,ne_eq]; omega,yc,qyK ha (by rintro rfl; simp at hc2) r f1,yd,hnext];cases ((cs.length:Int)==(w:Int)) with
    | true=>rfl
    | false =>
     rw [yd]
     by_cases hm:(w:Int)≤m0
     ·have hok:qrd m0 cs (Utf8.encode (r:Int)).data.toList=true:=by
       unfold qrd;rw [← Lib.size_eq];simp only [yf,ym];omega
      rw [yo hm,hok];unfold z155;rw [qtu ha r f1];rfl
     ·rw [yx hm,yd,h48]
 termination_by d
 decreasing_by all_goals omega
set_option maxRecDepth 100000 in
theorem qJx:∀ (s0:LU) (chars1:LU),(qme s0 chars1=true)→∃ n,qvF m0 n s0 chars1=qL (z128 s0 chars1):=fun s cs h=>⟨s.length+cs.length+2,by
 unfold qme at h;simp only [yf,ym] at h;obtain ⟨⟨hc2,ha,hcl⟩,hl⟩:=h;have hcl':=qd hcl;have hl':=qd hl;unfold qvF qdH z128;rw [show (cs==[])=false by cases cs with | nil=>simp at hc2 | cons c r=>rfl,yd];have hcne:(((cs.length:Nat):Int)==1)=false:=by rw [yB]; omega
 by_cases h1:s.length=1
 ·rw [show (((s.length:Nat):Int)==1)=true by rw [beq_iff_eq]; omega,yc];obtain ⟨x,rfl⟩:=List.length_eq_one_iff.1 h1;have hx:=qhF x;show (bif decide ((128:Int)≤IntKind.wrap .i32 ((x.toNat:Nat):Int)) then _ else _)=_;rw [IntWalk.i32_in _ (by omega)]
  by_cases h128:x.toNat < 128
  ·rw [yx (show ¬ (128:Int)≤((x.toNat:Nat):Int) by omega),yd];show (bif decide ((0:Int)≤Lib.indexByte cs x) then qL 0 else qL (-1))=qL (bif cs.contains x then 0 else -1);rw [← Lib.contains_iff_indexByte];cases cs.contains x <;> rfl
  ·rw [yo (show (128:Int)≤((x.toNat:Nat):Int) by omega),yc,qSX m0 _ _ cs ha cs.length 0 _ (by omega) (by omega)];show qL (-1)=qL (bif cs.contains x then 0 else -1);rw [qwm ha (by omega)];rfl
 ·rw [show (((s.length:Nat):Int)==1)=false by rw [yB]; omega,yd,hcne,yd];have h32:=qEu m0 qL (qcD m0 (s.length+cs.length+2)) rfl s cs hl' ha hc2 hcl' s.length 0 (s.length+cs.length+2) (by omega) (by omega);have h24:=qKL m0 qL (qdF m0 (s.length+cs.length+2)) rfl s cs hl' s.length 0 (s.length+cs.length+2) (by omega) (by omega);rw [show qcn cs=true by unfold qcn; rw [ha,hcl]; rfl];cases z152 ((s.length:Nat):Int) with
  | true=>exact h24
  | false =>
   rw [yd];exact h32⟩
theorem qJy:∀ (s0:LU) (cutset1:LU),(qqY s0 cutset1=true)→∃ n,qDi n s0 cutset1=qdE (z127 s0 cutset1):=fun s cs h=>⟨0,by
 unfold qqY at h;simp only [yf,ym] at h;obtain ⟨h1,h2,h3,h4⟩:=h;have hls:=qd h1;unfold qDi;cases s with
 | nil=>rfl
 | cons x r =>
  have hcs:(cs==([]:LU))=false:=by cases cs with
   | nil=>simp at h2
   | cons a b=>rfl
  have hlen:(x :: r).length=r.length+1:=rfl;have hm:qcn cs=true:=by unfold qcn; rw [h3,h4]; rfl
  have e:z148 (x :: r) (z147 cs).1=z127 (x :: r) cs:=by
   unfold z148 z127;have e:(fun c=>z153 (z147 cs).1 c)=fun c=>cs.contains c:=funext fun c=>qkD cs c;rw [e]
  rw [bneI (by omega),hcs,bneI (by omega),hm,show (z147 cs).2=true from rfl,show qhK (x :: r) (z147 cs).1=true from h1,e];rfl⟩
theorem qOz:∀ (c0:UInt8),∃ n,qMQ n c0=qqy (z65 c0):=fun c=>⟨0,by
 unfold qMQ z65 gapB;cases (c==32) <;> cases (c==9) <;> cases (c==13) <;> rfl⟩
theorem qhG (c:UInt8):([32,9,13,10]:LU).contains c=gapB c:=by
 unfold gapB;simp only [List.contains_cons,List.contains_nil,Bool.or_false]
theorem qEv:(fun c=>([32,9,13,10]:LU).contains c)=gapB:=funext qhG
theorem qJz (p:UInt8→Bool):∀ l:LU,l.dropWhile p=[]↔∀ x∈l,p x=true
 | []=>by simp
 | c :: l=>by
  rw [List.dropWhile_cons];cases hc:p c with
  | true =>
   rw [if_pos rfl,qJz p l];constructor
   ·intro h x hx;rcases List.mem_cons.1 hx with rfl | hx
    ·exact hc
    ·exact h x hx
   ·intro h x hx;exact h x (List.mem_cons_of_mem _ hx)
  | false =>
   rw [if_neg (by simp)];constructor
   ·intro h;cases h
   ·intro h;have:=h c (List.mem_cons_self ..);rw [hc] at this;cases this
theorem qhH (p:UInt8→Bool):∀ l:LU,(∀ x∈l.dropWhile p,p x=true)→l.dropWhile p=[]
 | [],_=>rfl
 | c :: l,h=>by
  rw [List.dropWhile_cons] at h ⊢;cases hc:p c with
  | true =>
   rw [hc,if_pos rfl] at h;rw [if_pos rfl];exact qhH p l h
  | false =>
   rw [hc,if_neg (by simp)] at h;have:=h c (List.mem_cons_self ..);rw [hc] at this;cases this
theorem qOA (p:UInt8→Bool) (s:LU):(qfe p s=[])↔s.all p=true:=by
 rw [List.all_eq_true];unfold qfe dropR;constructor
 ·intro h x hx;rw [qJz] at h;have h2:=qhH p s.reverse (fun y hy=>h y (List.mem_reverse.2 hy));rw [qJz] at h2;exact h2 x (List.mem_reverse.2 hx)
 ·intro h;rw [(qJz p _).2 (fun x hx=>h x (List.mem_reverse.1 hx))];rfl
theorem qKM (s:LU) (h:lenOk s=true):qgk s [32,9,13,10]=true:=by
 unfold qgk;rw [h];rfl
theorem qJA:∀ (run0:LU),(qwq run0=true)→∃ n,qDn n run0=qgH (z101 run0):=fun s h=>⟨0,by
 unfold qDn z101 kindB;rw [qKM s h,show qra s=true from h,show z129 s [32,9,13,10]=qfe gapB s by unfold z129; rw [qEv]];cases s with
 | nil=>cases z130 [] <;> rfl
 | cons x r =>
  rw [dT (show (0:Int) < (((x :: r).length:Nat):Int) by simp only [yg]; omega)];have:=qOA gapB (x :: r);cases ha:(x :: r).all gapB with
  | true =>
   rw [this.2 ha];rfl
  | false =>
   have hne:(qfe gapB (x :: r)).length≠0:=fun e=>by
    rw [this.1 (yF e)] at ha;cases ha
   rw [bneI (by omega)];cases z130 (x :: r) <;> rfl⟩
theorem qhI (p:UInt8→Bool) (s:LU):(s.takeWhile p).length+(s.dropWhile p).length=s.length:=by
 have:=congrArg List.length (List.takeWhile_append_dropWhile (p:=p) (l:=s));rw [yn] at this;exact this
theorem qOB:∀ (s0:LU),(qJF s0=true)→∃ n,qMC n s0=qKl (z99 s0):=fun s h=>⟨0,by
 have hl:=qd h;have:=qhI gapB s;unfold qMC;rw [show qqY s [32,9,13,10]=true from qKM s h,show z127 s [32,9,13,10]=s.dropWhile gapB by unfold z127; rw [qEv]];rw [wr (by omega)];unfold z99;rw [show (((s.length:Nat):Int) - (((s.dropWhile gapB).length:Nat):Int))=(((s.takeWhile gapB).length:Nat):Int) by omega];rfl⟩
theorem qKN:∀ (s:LU) (i:Int),0≤i→(anyAt [32,9,13,10] s i = -1∧s.takeWhile (fun c => !(gapB c))=s)∨anyAt [32,9,13,10] s i=i+((s.takeWhile fun c => !(gapB c)).length:Nat)
 | [],i,_=>.inl ⟨rfl,rfl⟩
 | x :: r,i,hi=>by
  have e:anyAt [32,9,13,10] (x :: r) i=bif ([32,9,13,10]:LU).contains x then i else anyAt [32,9,13,10] r (i+1):=rfl
  rw [e,qhG,List.takeWhile_cons];cases gapB x with
  | true=>exact .inr (by simp)
  | false =>
   rcases qKN r (i+1) (by omega) with ⟨h1,h2⟩ | h1
   ·exact .inl ⟨h1,by simpa using h2⟩
   ·refine .inr ?_;rw [yd,h1];simp;omega
theorem qJB:∀ (s0:LU),(qwr s0=true)→∃ n,qDk n s0=qsW (z100 s0):=fun s h=>⟨0,by
 unfold qDk;have hok:qme s [32,9,13,10]=true:=by
  unfold qme;rw [show lenOk s=true from h];rfl
 rw [hok];unfold z128 z100;rcases qKN s 0 (Int.le_refl _) with ⟨h1,h2⟩ | h1
 ·rw [h1,h2];rfl
 ·rw [h1,dF (by omega),Int.zero_add];rfl⟩
theorem qOC:∀ (s:LU),s≠[]→(bif decide (z100 s > z99 s) then z100 s else z99 s)=((alike s:Nat):Int)
 | [],h=>absurd rfl h
 | c :: r,_=>by
  unfold z100 z99;show _=(((r.takeWhile fun x=>gapB x==gapB c).length+1:Nat):Int);rw [List.takeWhile_cons,List.takeWhile_cons];cases hc:gapB c with
  | true =>
   have e:(fun x=>gapB x==true)=gapB:=funext fun x=>by cases gapB x <;> rfl
   rw [e];simp only [Bool.not_true,yq,if_false,if_true,List.length_nil,yg];rw [dF (by omega)];rfl
  | false =>
   have e:(fun x=>gapB x==false)=fun x => !(gapB x):=funext fun x=>by cases gapB x <;> rfl
   rw [e];simp only [Bool.not_false,yq,if_false,if_true,List.length_nil,yg];rw [dT (by omega)];rfl
theorem qEw (s:LU):alike s≤s.length:=by
 cases s with
 | nil=>exact yv _
 | cons c r =>
  unfold alike;have:=qhI (fun x=>gapB x==gapB c) r;simp only [yg];omega
theorem qwn {s:LU} (h:s≠[]):1≤alike s:=by
 cases s with
 | nil=>exact absurd rfl h
 | cons c r=>exact Nat.le_add_left _ _
theorem qfd (f:Nat) {s:LU} (h:s≠[]):qcl (f+1) s=(kindB (s.take (alike s)),(s.take (alike s),())) :: qcl f (s.drop (alike s)):=by
 show (if s=[] then [] else _)=_;rw [if_neg h]
theorem qlX:∀ f:Nat,qcl f []=[]
 | 0=>rfl
 | _+1=>rfl
theorem qlY (k0:List qz→OA):∀ (f:Nat) (s:LU) (l:List qz) (n:Nat),s.length≤f→f < n→l.length+s.length≤1048576 →
 qok k0 n s l=k0 (l++qcl f s)
 | f,s,l,0,_,hn,_=>by omega
 | f,[],l,n+1,hs,hn,hl=>by
  show qgI k0 (qok k0 n) n _ _=_;unfold qgI qeh qeg qbw qaA;rw [qlX,yG];rfl
 | 0,c :: r,l,n+1,hs,hn,hl=>by simp at hs
 | f+1,c :: r,l,n+1,hs,hn,hl=>by
  show qgI k0 (qok k0 n) n _ _=_;unfold qgI qeh qeg qbw qaA;rw [qOC (c :: r) (by simp),qfd f (by simp:(c :: r)≠[])];have h1:=qwn (by simp:(c :: r)≠[]);have h2:=qEw (c :: r);generalize hcr:c :: r=s at *
  have hsl:0 < s.length:=by rw [← hcr]; simp
  have okl:qJF s=true:=qi (by omega);have okr:qwr s=true:=qi (by omega);have htl:(s.take (alike s)).length≤1048576:=by rw [yz]; omega
  have okk:qwq (s.take (alike s))=true:=qi htl;have okc:qhW (s.take (alike s))=true:=qi htl;have hts:s.take s.length=s:=List.take_length;have ih:=qlY k0 f (s.drop (alike s)) (l++[(kindB (s.take (alike s)),(s.take (alike s),()))]) n (by simp; omega) (by omega) (by simp; omega);have hr:decide (l.length+([(kindB (s.take (alike s)),(s.take (alike s),()))]:List qz).length≤room)=true:=dT (by unfold room; simp; omega);simp (disch:=omega) only [dT,yc,yi,tn,okl,okr,yw,okk,okc,hts,show z101 (s.take (alike s))=kindB (s.take (alike s)) from rfl,show z83 (s.take (alike s))=s.take (alike s) from rfl,hr,qar];rw [ih,yl];rfl
theorem qOD:∀ (s0:LU),(qJG s0=true)→∃ n,qHU n s0=qKn (z59 s0):=fun s h=>⟨s.length+1,by
 have hl:=qd h;unfold qHU;exact qlY (qjU (s.length+1)) s.length s [] (s.length+1) (yv _) (by omega) (by simpa using hl)⟩
abbrev d0:qz:=((0:Int),(([]:LU),()))
theorem qSY {α:Type} (pre r:List α) (x y:α):List.set (pre++x :: r) pre.length y=(pre++[y])++r:=by
 rw [List.set_append_right _ _ (yv _),Nat.sub_self,yl];rfl
theorem qlZ (k0:List Bool→OA) (l:List qz) (hl:l.length≤1048576):∀ (d i n:Nat) (pre:List Bool),i+d=l.length→pre.length=i→d < n →
 qle k0 n l (pre++List.replicate d false) l (l.length:Nat) (i:Nat)=k0 (pre++hidF l d i)
 | d,i,0,pre,hi,hp,hn=>by omega
 | 0,i,n+1,pre,hi,hp,hn=>by
  show qgJ k0 (qle k0 n) n _ _ _ _ _=_;unfold qgJ;rw [dF (by omega),yd];rfl
 | d+1,i,n+1,pre,hi,hp,hn=>by
  show qgJ k0 (qle k0 n) n _ _ _ _ _=_;unfold qgJ;have ih:=qlZ k0 l hl d (i+1) n (pre++[qaN l i]) (by omega) (by simp; omega) (by omega);have e:(pre++[qaN l i])++hidF l d (i+1)=pre++hidF l (d+1) i:=by rw [yl]; rfl
  rw [e] at ih;have hlen:(pre++List.replicate (d+1) false).length=i+(d+1):=by simp [hp]
  have hset:∀ y,List.set (pre++List.replicate (d+1) false) i y=(pre++[y])++List.replicate d false:=fun y=>by
   rw [← hp];exact qSY pre (List.replicate d false) false y
  have hsame:pre++List.replicate (d+1) false=(pre++[false])++List.replicate d false:=by rw [yl]; rfl
  have hfal:qaN l i=false→qle k0 n l (pre++List.replicate (d+1) false) l (l.length:Nat) ((i+1:Nat):Int)=k0 (pre++hidF l (d+1) i):=fun hf=>by
   rw [hf] at ih;rw [hsame];exact ih
  have hb:qaN l i=((List.getD l i d0).1==1&&(decide (0 < i)&&(decide (i+1 < l.length)&&((List.getD l (i - 1) d0).1==3&&(List.getD l (i+1) d0).1==3)))):=rfl;rw [hlen,qf (by omega)];simp (disch:=omega) only [dT,yc,yi,tn]
  by_cases h0:0 < i
  ·have hw:IntKind.wrap .i64 ((i:Int) - 1)=((i - 1:Nat):Int):=by rw [wr (by omega)]; omega
   rw [dT (show (0:Int) < (i:Int) by omega),yc]
   by_cases h1:i+1 < l.length
   ·rw [dT (show ((i+1:Nat):Int) < ((l.length:Nat):Int) by omega),yc,hw];rw [yo h0,yo h1,y5,y5] at hb;simp (disch:=omega) only [dT,yc,yi,tn];cases ha:((List.getD l i d0).1==1) with
    | false =>
     rw [ha,Bool.false_and] at hb;rw [yd];exact hfal hb
    | true =>
     rw [ha,y5] at hb;rw [yc];cases hc:((List.getD l (i - 1) d0).1==3) with
     | false =>
      rw [hc,Bool.false_and] at hb;rw [hb] at ih;rw [yd,hset];exact ih
     | true =>
      rw [hc,y5] at hb;rw [yc,hset,← hb];exact ih
   ·rw [dF (show ¬ ((i+1:Nat):Int) < ((l.length:Nat):Int) by omega),yd];exact hfal (by rw [hb,yx h1]; simp)
  ·rw [dF (show ¬ (0:Int) < (i:Int) by omega),yd];exact hfal (by rw [hb,yx h0]; simp)
theorem qOE:∀ (l0:List qz),(qJI l0=true)→∃ n,qHV n l0=qKo (z60 l0):=fun l h=>⟨l.length+1,by
 have hl:=qd h;unfold qHV;have hr:((l.length:Nat):Int)≤(room:Int):=by unfold room; omega
 simp (disch:=omega) only [dT,yc,yi,tn];exact qlZ (qjV (l.length+1)) l hl l.length 0 (l.length+1) [] (by omega) rfl (by omega)⟩
theorem qOF:∀ (l0:List qz) (i1:Int),(qyL l0 i1=true)→∃ n,qMT n l0 i1=qlM (z41 l0 i1):=fun l j h=>⟨0,by
 unfold qyL at h;simp only [yf,ym] at h;obtain ⟨h1,h2,h3⟩:=h;have hl:=qd h1;obtain ⟨i,rfl⟩:∃ i:Nat,j=(i:Int):=⟨j.toNat,by omega⟩;unfold qMT z41;have hb:qaN l i=((List.getD l i d0).1==1&&(decide (0 < i)&&(decide (i+1 < l.length)&&((List.getD l (i - 1) d0).1==3&&(List.getD l (i+1) d0).1==3)))):=rfl;rw [tn,hb,qf (by omega),tn];simp (disch:=omega) only [dT,yc,yi]
 by_cases h0:0 < i
 ·have hw:IntKind.wrap .i64 ((i:Int) - 1)=((i - 1:Nat):Int):=by rw [wr (by omega)]; omega
  rw [dT (show (0:Int) < (i:Int) by omega),yc,hw,yo h0,tn]
  by_cases h4:i+1 < l.length
  ·rw [dT (show ((i+1:Nat):Int) < ((l.length:Nat):Int) by omega),yo h4];simp (disch:=omega) only [dT,yc,yi,y5];cases ((List.getD l i d0).1==1) <;> cases ((List.getD l (i - 1) d0).1==3) <;> rfl
  ·rw [dF (show ¬ ((i+1:Nat):Int) < ((l.length:Nat):Int) by omega),yx h4];cases ((List.getD l i d0).1==1) <;> rfl
 ·rw [dF (show ¬ (0:Int) < (i:Int) by omega),yx h0];cases ((List.getD l i d0).1==1) <;> rfl⟩
theorem qtv (l:List qz):∀ d i:Nat,(hidF l d i).length=d
 | 0,_=>rfl
 | d+1,i=>by
  show (qaN l i :: hidF l d (i+1)).length=_;rw [yg,qtv l d (i+1)]
theorem qwo (l:List qz):∀ d i k:Nat,k < d→List.getD (hidF l d i) k false=qaN l (i+k)
 | 0,_,_,h=>by omega
 | d+1,i,0,_=>rfl
 | d+1,i,k+1,h=>by
  show List.getD (hidF l d (i+1)) k false=_;rw [qwo l d (i+1) k (by omega)];congr 1;omega
theorem qkO (k0:List qz→OA) (l:List qz) (hl:l.length≤1048576):∀ (d i n:Nat) (out:List qz),i+d=l.length→d < n→out.length+d≤1048576 →
 qol k0 n out l (hidF l l.length 0) (l.length:Nat) (i:Nat)=k0 (out++showF l d i)
 | d,i,0,out,hi,hn,hb=>by omega
 | 0,i,n+1,out,hi,hn,hb=>by
  show qgK k0 (qol k0 n) n _ _ _ _ _=_;unfold qgK;rw [dF (by omega),yd];show k0 out=k0 (out++[]);rw [yG]
 | d+1,i,n+1,out,hi,hn,hb=>by
  show qgK k0 (qol k0 n) n _ _ _ _ _=_;unfold qgK;have h1:=qkO k0 l hl d (i+1) n out (by omega) (by omega) (by omega);have h2:=qkO k0 l hl d (i+1) n (out++[l.getD i d0]) (by omega) (by omega) (by simp; omega);have hr:decide (out.length+([l.getD i d0]:List qz).length≤room)=true:=dT (by unfold room; simp; omega);rw [qtv,tn,qwo l l.length 0 i (by omega),yE,qf (by omega)];have e:showF l (d+1) i=bif qaN l i then showF l d (i+1) else l.getD i d0 :: showF l d (i+1):=rfl
  rw [e];simp (disch:=omega) only [dT,yc,yi];cases qaN l i with
  | true=>exact h1
  | false =>
   rw [Bool.not_false,yc,hr,yc,yd,h2,yl];rfl
theorem qhp (k0:List qz→OA) (l:List qz) (hl:l.length≤1048576):∀ (d i n:Nat) (out:List qz),i+d=l.length→d < n→out.length+d≤1048576 →
 qoz k0 n l out (i:Nat)=k0 (out++showF l d i)
 | d,i,0,out,hi,hn,hb=>by omega
 | 0,i,n+1,out,hi,hn,hb=>by
  show qgT k0 (qoz k0 n) n _ _ _=_;unfold qgT;rw [dF (by omega),yd];show k0 out=k0 (out++[]);rw [yG]
 | d+1,i,n+1,out,hi,hn,hb=>by
  show qgT k0 (qoz k0 n) n _ _ _=_;unfold qgT;have h1:=qhp k0 l hl d (i+1) n out (by omega) (by omega) (by omega);have h2:=qhp k0 l hl d (i+1) n (out++[l.getD i d0]) (by omega) (by omega) (by simp; omega);have hr:decide (out.length+([l.getD i d0]:List qz).length≤room)=true:=dT (by unfold room; simp; omega);have hok:qyL l (i:Int)=true:=by
   unfold qyL;rw [qi hl,dT (by omega),dT (by omega)];rfl
  rw [hok,show z41 l (i:Int)=qaN l i by unfold z41; rw [tn],tn,qf (by omega)];have e:showF l (d+1) i=bif qaN l i then showF l d (i+1) else l.getD i d0 :: showF l d (i+1):=rfl
  rw [e];simp (disch:=omega) only [dT,yc,yi];cases qaN l i with
  | true=>exact h1
  | false =>
   rw [Bool.not_false,yc,hr,yc,yd,h2,yl];rfl
theorem qma:∀ (f:Nat) (s:LU),(qcl f s).length≤f
 | 0,_=>yv _
 | f+1,s=>by
  by_cases h:s=[]
  ·subst h;exact Nat.zero_le _
  ·rw [qfd f h,yg];have:=qma f (s.drop (alike s));omega
theorem qqV (s:LU):(qdi s).length≤s.length:=qma _ _
theorem qOG:∀ (s0:LU),(qll s0=true)→∃ n,qHW n s0=qKp (z37 s0):=fun s h=>⟨s.length+1,by
 have hl:=qd h;have hp:=qqV s;unfold qHW;have ok2:qJI (qdi s)=true:=qi (by omega);rw [show qJG s=true from h,show z59 s=qdi s from rfl,ok2,show z60 (qdi s)=hidF (qdi s) (qdi s).length 0 from rfl,qtv];exact qkO (qjW (s.length+1)) (qdi s) (by omega) (qdi s).length 0 (s.length+1) [] (by omega) (by omega) (by simp; omega)⟩
theorem qOH:∀ (s0:LU),(qJJ s0=true)→∃ n,qIb n s0=qKy (z23 s0):=fun s h=>⟨s.length+1,by
 have hl:=qd h;have hp:=qqV s;unfold qIb;rw [show qJH s=true from h,show z40 s=qdi s from rfl];exact qhp (qkp (s.length+1)) (qdi s) (by omega) (qdi s).length 0 (s.length+1) [] (by omega) (by omega) (by simp; omega)⟩
theorem qoK (k0:LU→Bool→OA) (s:LU) (hl:s.length≤1048576):∀ (d i n:Nat) (all:Bool),i+d=s.length→d < n →
 qox k0 n s all (i:Nat)=k0 s (all&&(s.drop i).all gapB)
 | d,i,0,all,hi,hn=>by omega
 | 0,i,n+1,all,hi,hn=>by
  show qgQ k0 (qox k0 n) n _ _ _=_;unfold qgQ;rw [dF (by omega),yd,yA (by omega)];rw [List.all_nil,yi]
 | d+1,i,n+1,all,hi,hn=>by
  show qgQ k0 (qox k0 n) n _ _ _=_;unfold qgQ;have hlt:i < s.length:=by omega
  have h1:=qoK k0 s hl d (i+1) n (gapB (List.getD s i 0)) (by omega) (by omega);have h2:=qoK k0 s hl d (i+1) n false (by omega) (by omega);rw [qC (d:=(0:UInt8)) hlt,List.all_cons];simp (disch:=omega) only [dT,yc,yi,tn,qf,show z65 (List.getD s i 0)=gapB (List.getD s i 0) from rfl];cases all with
  | true=>rw [yc,h1,y5]
  | false=>rw [yd,h2]; rfl
theorem qOI:∀ (run0:LU),(qJE run0=true)→∃ n,qHZ n run0=qvR (z66 run0):=fun s h=>⟨s.length+1,by
 have hl:=qd h;unfold qHZ;refine (qoK (qgR (s.length+1)) s hl s.length 0 (s.length+1) _ (by omega) (by omega)).trans ?_;unfold qgR z66 kindB;rw [yw,show qlk s=true from h,show z42 s=z51 s from rfl];have he:decide ((0:Int) < ((s.length:Nat):Int)) = !s.isEmpty:=by
  cases s with
  | nil=>rfl
  | cons x r=>exact dT (by simp only [yg]; omega)
 rw [he];unfold z130;cases (!s.isEmpty&&s.all gapB) <;> cases ((z51 s).2==0) <;> rfl⟩
theorem qqW (k2:LU→List qz→Int→Int→OA) (s:LU) (hl:s.length≤1048576) (out:List qz) (i:Nat) (hi:i < s.length):∀ (d k n:Nat),k+d=s.length→d < n →
 qoy k2 n s out (i:Nat) (k:Nat)=k2 s out (i:Nat) ((k+((s.drop k).takeWhile fun x=>gapB x==gapB (List.getD s i 0)).length:Nat):Int)
 | d,k,0,hk,hn=>by omega
 | 0,k,n+1,hk,hn=>by
  show qgS k2 (qoy k2 n) n _ _ _ _=_;unfold qgS;rw [dF (by omega),yd,yA (by omega)];rfl
 | d+1,k,n+1,hk,hn=>by
  show qgS k2 (qoy k2 n) n _ _ _ _=_;unfold qgS;have hlt:k < s.length:=by omega
  have ih:=qqW k2 s hl out i hi d (k+1) n (by omega) (by omega);rw [qC (d:=(0:UInt8)) hlt,List.takeWhile_cons];simp (disch:=omega) only [dT,yc,yi,tn,qf,show ∀ c,z65 c=gapB c from fun _=>rfl];cases hc:(gapB (List.getD s k 0)==gapB (List.getD s i 0)) with
  | true =>
   rw [yc,ih,if_pos rfl,yg];congr 2;omega
  | false =>
   rw [yd,if_neg (by simp)];rfl
theorem qEx {s:LU} {i:Nat} (hi:i < s.length):((s.drop i).takeWhile fun x=>gapB x==gapB (List.getD s i 0)).length=alike (s.drop i):=by
 rw [qC (d:=(0:UInt8)) hi,List.takeWhile_cons];simp only [beq_self_eq_true,if_true,yg];rfl
theorem qkP (k0:List qz→OA) (s:LU) (hl:s.length≤1048576):∀ (f i n:Nat) (out:List qz),s.length≤i+f→i≤s.length→s.length+(s.length - i) < n→out.length+(s.length - i)≤1048576 →
 qqA k0 n s out (i:Nat)=k0 (out++qcl f (s.drop i))
 | f,i,0,out,hf,hi,hn,ho=>by omega
 | f,i,n+1,out,hf,hi,hn,ho=>by
  show qkn k0 (qqA k0 n) n _ _ _=_;unfold qkn
  by_cases hlt:i < s.length
  ·rw [dT (show (i:Int) < ((s.length:Nat):Int) by omega),yc,qqW _ s hl out i hlt (s.length - i) i n (by omega) (by omega),qEx hlt];have hne:s.drop i≠[]:=fun e=>by
    have:=congrArg List.length e;simp at this;omega
   have h1:=qwn hne;have h2:=qEw (s.drop i);rw [yK] at h2;unfold qkm qbC;match f,hf with
   | 0,hf=>omega
   | f+1,hf =>
    rw [qfd f hne,List.drop_drop];generalize hal:alike (s.drop i)=al at *
    have hsub:List.drop i (List.take (i+al) s)=(s.drop i).take al:=by rw [List.drop_take]; congr 1; omega
    have htl:((s.drop i).take al).length≤1048576:=by rw [yz]; omega
    have okk:qJE ((s.drop i).take al)=true:=qi htl;have ih:=qkP k0 s hl f (i+al) n (out++[(kindB ((s.drop i).take al),((s.drop i).take al,()))]) (by omega) (by omega) (by omega) (by simp; omega);have hr:decide (out.length+([(kindB ((s.drop i).take al),((s.drop i).take al,()))]:List qz).length≤room)=true:=dT (by unfold room; simp; omega);simp (disch:=omega) only [dT,yc,yi,tn,hsub,okk,show z66 ((s.drop i).take al)=kindB ((s.drop i).take al) from rfl,hr];rw [ih,yl];rfl
  ·rw [dF (by omega),yd,yA (by omega),qlX,yG]
theorem qOJ:∀ (s0:LU),(qJH s0=true)→∃ n,qIa n s0=qKx (z40 s0):=fun s h=>⟨s.length+s.length+1,by
 have hl:=qd h;unfold qIa;exact qkP (qko (s.length+s.length+1)) s hl s.length 0 (s.length+s.length+1) [] (by omega) (by omega) (by omega) (by simpa using hl)⟩
theorem qOK:∀ (s0:LU) (sep1:LU),(qyR s0 sep1=true)→∃ n,qMJ n s0 sep1=qDI (z35 s0 sep1).1 (z35 s0 sep1).2.1 (z35 s0 sep1).2.2:=fun s sep h=>⟨0,by
 have h0:=h;unfold qyR at h;rw [yf] at h;have hl:=qd h.1;have hl2:=qd (yf _ _ ▸ h.2).1;unfold qMJ z35 z57;rw [show qrf s sep=true from h0]
 by_cases h1:0≤Lib.index s sep
 ·have hr:=Lib.index_room s sep h1;have e:IntKind.wrap .i64 (Lib.index s sep+((sep.length:Nat):Int))=Lib.index s sep+((sep.length:Nat):Int):=IntWalk.i64_in _ (by omega);rw [e,yo h1,yo (show (0:Int)≤((0:Nat):Int) by omega),yo (show ((0:Nat):Int)≤Lib.index s sep by omega),yo (show Lib.index s sep≤((s.length:Nat):Int) by omega),
   yo (show (0:Int)≤Lib.index s sep+((sep.length:Nat):Int) by omega),yo (show Lib.index s sep+((sep.length:Nat):Int)≤((s.length:Nat):Int) by omega),yo (Int.le_refl ((s.length:Nat):Int)),qV,qV,List.take_length,
   show Int.toNat (Lib.index s sep+((sep.length:Nat):Int))=(Lib.index s sep).toNat+sep.length by omega]
  rfl
 ·rw [yx h1]; rfl⟩
theorem qOL (x:UInt8) (r:LU):unfS 1 (x :: r)=unf r:=by cases r <;> rfl
theorem qSZ (x:UInt8) (r:LU):nfS 1 (x :: r)=qty r:=by cases r <;> rfl
theorem qkQ (x:UInt8) (r:LU):unf (x :: r)=bif qdo (x :: r) then unf (r.drop 1) else x :: unf r:=by
 show (bif qdo (x :: r) then unfS 1 r else x :: unfS 0 r)=_;cases r with
 | nil=>rfl
 | cons y r=>rw [qOL]; rfl
theorem qmb (x:UInt8) (r:LU):qty (x :: r)=bif qdo (x :: r) then qty (r.drop 1)+1 else qty r:=by
 show (bif qdo (x :: r) then nfS 1 r+1 else nfS 0 r)=_;cases r with
 | nil=>rfl
 | cons y r=>rw [qSZ]; rfl
theorem qKO:unf []=[]:=rfl
theorem qEy:qty []=0:=rfl
theorem qqX {x:UInt8} {r:LU} (h:qdo (x :: r)=true):2≤r.length:=by
 match r,h with
 | [],h=>cases h
 | [_],h=>cases h
 | _ :: _ :: _,_=>simp
def tailF (rest:LU):LU:=match rest with
 | []=>[13,10]
 | c :: r=>bif blank c then unf (c :: r) else 13 :: 10 :: unf (c :: r)
theorem qOM (rest:LU):unf (13 :: 10 :: rest)=tailF rest:=by
 have h10:∀ r,qdo (10 :: r)=false:=fun r=>by
  match r with
  | []=>rfl
  | [_]=>rfl
  | _ :: _ :: _=>rfl
 rw [qkQ,qkQ,h10];cases rest with
 | nil=>rfl
 | cons c r =>
  show (bif blank c then unf (c :: r) else 13 :: 10 :: unf (c :: r))=_;rfl
theorem qON (x:UInt8) (r:LU):(([13,10]:LU).isPrefixOf (x :: r))=true→∃ rest,x=13∧r=10 :: rest:=by
 intro h;cases r with
 | nil=>simp [List.isPrefixOf] at h
 | cons y r =>
  simp [List.isPrefixOf] at h;exact ⟨r,h.1.symm,by rw [h.2]⟩
theorem qEz (x:UInt8) (r:LU) (h:qdo (x :: r)=true):(([13,10]:LU).isPrefixOf (x :: r))=true:=by
 match r,h with
 | [],h=>cases h
 | [_],h=>cases h
 | b :: c :: r,h =>
  simp only [qdo,yf,beq_iff_eq] at h;rw [h.1,h.2.1];simp [List.isPrefixOf]
theorem qwp:∀ s:LU,(Lib.index s [13,10] = -1∧unf s=s)∨(0≤Lib.index s [13,10]∧(Lib.index s [13,10]).toNat+2≤s.length∧unf s=s.take (Lib.index s [13,10]).toNat++tailF (s.drop ((Lib.index s [13,10]).toNat+2)))
 | []=>.inl ⟨rfl,rfl⟩
 | x :: r=>by
  have hi:Lib.index (x :: r) [13,10]=if ([13,10]:LU).isPrefixOf (x :: r) then 0 else if Lib.index r [13,10] == -1 then -1 else Lib.index r [13,10]+1:=rfl
  cases hp:([13,10]:LU).isPrefixOf (x :: r) with
  | true =>
   obtain ⟨rest,rfl,rfl⟩:=qON x r hp;right;rw [hi,hp];refine ⟨Int.le_refl _,by simp,?_⟩;rw [qOM];rfl
  | false =>
   have hf:qdo (x :: r)=false:=by
    cases h:qdo (x :: r) with
    | false=>rfl
    | true=>rw [qEz x r h] at hp; cases hp
   rw [hi,hp,qkQ,hf];simp only [yq,if_false,yd];rcases qwp r with ⟨h1,h2⟩ | ⟨h1,h2,h3⟩
   ·left;rw [h1];exact ⟨rfl,by rw [h2]⟩
   ·right;have hne:(Lib.index r [13,10] == -1)=false:=by rw [yB]; omega
    rw [hne];simp only [yq,if_false];have e:(Lib.index r [13,10]+1).toNat=(Lib.index r [13,10]).toNat+1:=by omega
    rw [e];refine ⟨by omega,by simp; omega,?_⟩;rw [h3,List.take_succ_cons,show (Lib.index r [13,10]).toNat+1+2=((Lib.index r [13,10]).toNat+2)+1 by omega,List.drop_succ_cons];rfl
theorem qhq (ret:LU→OA):∀ (d:Nat) (s out:LU) (n:Nat),s.length≤d→d < n→out.length+s.length≤1048576→qoq ret n s out=ret (out++unf s)
 | d,s,out,0,hd,hn,ho=>by omega
 | d,s,out,n+1,hd,hn,ho=>by
  show qop ret (qoq ret n) n s out=_;unfold qop qH;have hok:qyR s [13,10]=true:=by unfold qyR; rw [yf]; exact ⟨by unfold lenOk; rw [ym]; omega,rfl⟩
  rw [hok];rcases qwp s with ⟨h1,h2⟩ | ⟨h1,h2,h3⟩
  ·have hc:z35 s [13,10]=(s,[],false):=by
    unfold z35;rw [h1];rfl
   rw [hc,h2];simp only [Bool.and_self,yc,Bool.not_false];rw [yo (by unfold room; omega)];rfl
  ·have hc:z35 s [13,10]=(s.take (Lib.index s [13,10]).toNat,s.drop ((Lib.index s [13,10]).toNat+2),true):=by
    unfold z35;rw [yo h1];rfl
   rw [hc,h3];generalize (Lib.index s [13,10]).toNat=k at h2;have hlt:(s.take k).length=k:=by rw [yz]; omega
   have hld:(s.drop (k+2)).length=s.length - (k+2):=by rw [yK]
   simp only [Bool.and_self,yc,Bool.not_true,yd];rw [yo (by unfold room; omega),yc];have ih1:=qhq ret (d - 1) (s.drop (k+2)) (out++s.take k++[13,10]) n (by omega) (by omega) (by simp only [yn,hlt,hld,yg,List.length_nil]; omega);have ih2:=qhq ret (d - 1) (s.drop (k+2)) (out++s.take k) n (by omega) (by omega) (by simp only [yn,hlt,hld]; omega);have hroom:decide ((out++s.take k).length+([13,10]:LU).length≤Go.Av.room)=true:=by
    rw [ym]; unfold Go.Av.room; simp only [yn,hlt,yg,List.length_nil]; omega
   rw [hroom];cases hr:s.drop (k+2) with
   | nil =>
    rw [hr] at ih1;simp only [List.length_nil];show qoq ret n [] (out++s.take k++[13,10])=_;rw [ih1,qKO];simp [tailF]
   | cons c r =>
    rw [hr] at ih1 ih2;have h0:((((c :: r).length:Nat):Int)==0)=false:=by rw [yB]; simp only [yg]; omega
    rw [h0,yo (Int.le_refl _),yo (show (0:Int) < (((c :: r).length:Nat):Int) by simp only [yg]; omega)];simp only [Bool.and_self,yc,yd,Int.toNat_zero,List.getD_cons_zero,qNO,ih1,ih2];cases hb:blank c <;> simp [tailF,hb,yl]
theorem qOO:∀ (s0:LU),(qlm s0=true)→∃ n,qMK n s0=qvP (z19 s0):=fun s h=>⟨s.length+1,by
 have:=qhq qvP s.length s [] (s.length+1) (yv _) (by omega) (by have:=qd h; simp; omega);exact this⟩
theorem qOP:∀ (s0:LU) (i1:Int),(qyS s0 i1=true)→∃ n,qMO n s0 i1=qkj (z22 s0 i1):=fun s i h=>⟨0,by
 unfold qyS at h;simp only [yf,ym] at h;obtain ⟨h1,h2,h3⟩:=h;have hl:=qd h1;obtain ⟨j,rfl⟩:∃ j:Nat,i=j:=⟨i.toNat,by omega⟩;have e1:IntKind.wrap .i64 ((j:Int)+1)=((j+1:Nat):Int):=qf (by omega);have e2:IntKind.wrap .i64 ((j:Int)+2)=((j+2:Nat):Int):=by rw [IntWalk.i64_in _ (by omega)]; omega
 unfold qMO z22;rw [e1,e2,qV,qV,qV]
 by_cases hlt:j+2 < s.length
 ·rw [qC (d:=0) (show j < s.length by omega),qC (d:=0) (show j+1 < s.length by omega),qC (d:=0) hlt];rw [qfj,qfj,qfj,yo hlt,yo (show j < s.length by omega),yo (show j+1 < s.length by omega),qK,qK,qK];show _=qkj ((s.getD j 0==13)&&((s.getD (j+1) 0==10)&&((s.getD (j+2) 0==32)||(s.getD (j+2) 0==9))));cases s.getD j 0==13 <;> cases s.getD (j+1) 0==10 <;> cases s.getD (j+2) 0==32 <;> rfl
 ·rw [qfj,yx hlt,yd];have hf:qdo (s.drop j)=false:=by
   cases hd:s.drop j with
   | nil=>rfl
   | cons a r =>
    cases hb:qdo (a :: r) with
    | false=>rfl
    | true =>
     have h4:=qqX hb;have h5:=congrArg List.length hd;rw [yK,yg] at h5;omega
  rw [hf]⟩
theorem qdh (k0:LU→Int→OA) (s:LU) (hl:s.length≤1048576):∀ (d i n:Nat) (out:LU) (m:Nat),i+d=s.length→d < n→out.length+d≤1048576→m+d≤1048576 →
 qot k0 n s out (m:Nat) (i:Nat)=k0 (out++unf (s.drop i)) ((m+qty (s.drop i):Nat):Int)
 | d,i,0,out,m,hi,hn,ho,hm=>by omega
 | 0,i,n+1,out,m,hi,hn,ho,hm=>by
  show qgL k0 (qot k0 n) n s out _ _=_;unfold qgL;rw [yx (by omega),yd,yA (by omega),qKO,qEy,yG,Nat.add_zero]
 | d+1,i,n+1,out,m,hi,hn,ho,hm=>by
  show qgL k0 (qot k0 n) n s out _ _=_;unfold qgL;have hlt:i < s.length:=by omega
  have hok:qyS s (i:Int)=true:=by
   unfold qyS;simp only [yf,ym];exact ⟨by unfold lenOk; rw [ym]; exact hl,by omega,by omega⟩
  have hd:=qC (d:=0) hlt;rw [qfj,yo hlt,yc,hok];unfold z22;rw [qV];cases hf:qdo (s.drop i) with
  | true =>
   rw [hd] at hf;have h2:=qqX hf;rw [yK] at h2;rw [qf (show i < 4611686018427387904 by omega),qf (show i+1 < 4611686018427387904 by omega),qf (show m < 4611686018427387904 by omega)];obtain ⟨d,rfl⟩:∃ d',d=d'+1:=⟨d - 1,by omega⟩;have ih:=qdh k0 s hl d (i+1+1) n out (m+1) (by omega) (by omega) (by omega) (by omega);simp only [Bool.and_self,yc];rw [ih,hd,qkQ,qmb,hf,yc,yc,List.drop_drop];congr 2;omega
  | false =>
   rw [hd] at hf;have ih:=qdh k0 s hl d (i+1) n (out++[s.getD i 0]) m (by omega) (by omega) (by simp; omega) (by omega);rw [qK,yo (by unfold room; simp; omega),qf (i:=i) (by omega),hd,qkQ,qmb,hf];simp only [Bool.and_self,yc,yd];rw [ih,yl];rfl
theorem qOQ:∀ (s0:LU),(qJL s0=true)→∃ n,qMP n s0=qKt (z13 s0).1 (z13 s0).2:=fun s h=>⟨s.length+1,by
 have hl:=qd h;have:=qdh (qgM (s.length+1)) s hl s.length 0 (s.length+1) [] 0 (by omega) (by omega) (by simp; omega) (by omega);refine this.trans ?_;unfold qgM z13;rw [yE];rfl⟩
end Go.Av
