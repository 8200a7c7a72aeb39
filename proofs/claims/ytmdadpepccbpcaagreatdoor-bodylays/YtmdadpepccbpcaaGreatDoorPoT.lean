import Derived.Test.YtmdadpepccbpcaaGreatDoorPoSh
import Derived.Test.YtmdadpepccbpcaaGreatDoorPoB
import Derived.Test.YtmdadpepccbpcaaGreatDoorAvE
import Derived.Lib.IndexAny
import Derived.Lib.IndexMore
import Derived.Lib.IndexBytes
import Derived.IntWalk
import Derived.KernelRfl
namespace Go.Av
set_option linter.unusedSimpArgs false
set_option linter.unusedVariables false
section
theorem qrp {α:Type} [DecidableEq α] {a b:List α} {i:Nat} (ha:i < a.length) (hb:i < b.length) (d:α):decide (a.drop i=b.drop i)=bif a.getD i d != b.getD i d then false else decide (a.drop (i+1)=b.drop (i+1)):=by
 rw [qA (d:=d) ha,qA (d:=d) hb];generalize a.getD i d=x;generalize b.getD i d=y
 by_cases h:x=y
 ·subst h; simp
 ·simp [h]
theorem qyt (ret:Bool→OA) (a b:LU) (hab:a.length=b.length) (hl:a.length≤1048576):∀ (d i n:Nat),i+d=a.length→d < n →
 qlj ret (ret true) n a b (i:Nat)=ret (decide (a.drop i=b.drop i))
 | d,i,0,hi,hn=>by omega
 | 0,i,n+1,hi,hn=>by
  show qfQ ret (ret true) (qlj ret (ret true) n) n a b _=_;unfold qfQ;rw [yx (by omega),yd,yA (by omega),yA (by omega)];rfl
 | d+1,i,n+1,hi,hn=>by
  show qfQ ret (ret true) (qlj ret (ret true) n) n a b _=_;unfold qfQ;have hlt:i < a.length:=by omega
  have hlt':i < b.length:=by omega
  have ih:=qyt ret a b hab hl d (i+1) n (by omega) (by omega);rw [qnB,yo hlt,yc,qaV,y5,yc,y5,qnB,yo hlt',yc,qn (by omega),qbM,ih,qrp hlt hlt' 0];cases (a.getD i 0 != b.getD i 0) <;> rfl
theorem qGh:∀ (a0:LU) (b1:LU),(qzP a0 b1=true)→∃ n,qBM n a0 b1=qjo (z10 a0 b1):=fun a b h=>⟨a.length+1,by
 unfold qBM z10
 by_cases hab:a.length=b.length
 ·rw [show (((a.length:Nat):Int) != ((b.length:Nat):Int))=false by simp [hab],yd];exact qyt qjo a b hab (qm h) a.length 0 (a.length+1) (by omega) (by omega)
 ·rw [show (((a.length:Nat):Int) != ((b.length:Nat):Int))=true by simp only [bne_iff_ne,ne_eq]; omega,yc,yx (fun e=>hab (by rw [e]))]⟩
theorem qnh (c:UInt8):decide (((UInt8.toNat c:Nat):Int) < (256:Nat))=true:=by
 have:=c.toNat_lt;rw [yo];omega
theorem qBS:∀ (c0:UInt8),∃ n,qxn n c0=qg (z228 c0):=fun c=>⟨0,by
 unfold qxn qcU qU z228 qqk orI;cases decide (c < (32:UInt8)) <;> cases (c==(127:UInt8)) <;> cases (c==(32:UInt8)) <;> cases (c==(9:UInt8)) <;> cases decide ((48:UInt8)≤c) <;> cases decide (c≤(57:UInt8)) <;> cases decide ((65:UInt8)≤c) <;> cases decide (c≤(90:UInt8)) <;> cases decide ((97:UInt8)≤c) <;> cases decide (c≤(122:UInt8)) <;> rfl⟩
theorem qBT:∀ (s0:LU) (c1:UInt8),∃ n,qDF n s0 c1=qxo (z236 s0 c1):=fun _ _=>⟨0,rfl⟩
theorem qBU:∀ (s0:LU) (c1:UInt8),∃ n,qDG n s0 c1=qxp (z216 s0 c1):=fun _ _=>⟨0,rfl⟩
theorem qBV:∀ (s0:LU) (c1:UInt8),∃ n,qDH n s0 c1=qxq (z229 s0 c1):=fun _ _=>⟨0,rfl⟩
theorem qBW:∀ (c0:UInt8),∃ n,qxr n c0=qar (z198 c0):=fun c=>⟨0,by
 unfold qxr qbD qcV qaX z198 qzQ orI;cases decide (c < (33:UInt8)) <;> cases decide ((126:UInt8) < c) <;> cases z229 [33,42,43,45,47] c <;> cases z229 [43,47] c <;> cases z229 [40,41,60,62,64,44,59,58,92,34,47,91,93,63,61] c <;> cases z229 [42,39,37] c <;> rfl⟩
theorem qBX:∀ (c0:UInt8) (kinds1:Int),∃ n,qDI n c0 kinds1=qxs (z144 c0 kinds1):=fun _ _=>⟨0,rfl⟩
theorem qgp (c:UInt8):c.toNat < 256:=c.toNat_lt
theorem qGi (cs:LU) (x:UInt8):∀ (a:List Bool),a.length=256→(setOf cs a).getD x.toNat false=(cs.contains x||a.getD x.toNat false):=by
 induction cs with
 | nil=>intro a _; simp [setOf]
 | cons c cs ih =>
  intro a hl;show (setOf cs (List.set a c.toNat true)).getD x.toNat false=_;rw [ih _ (by simpa using hl)];have hx:=qgp x;have hc:=qgp c
  by_cases e:c=x
  ·subst e;have:(List.set a c.toNat true).getD c.toNat false=true:=by simp [List.getD,hl,hc]
   rw [this];simp
  ·have hne:c.toNat≠x.toNat:=fun h=>e (UInt8.toNat_inj.1 h);have:(List.set a c.toNat true).getD x.toNat false=a.getD x.toNat false:=by simp [List.getD,List.getElem?_set_ne hne]
   rw [this];have hb:¬ x=c:=fun h=>e h.symm;simp [hb]
theorem dT {p:Prop} [Decidable p] (h:p):decide p=true:=yo h
theorem dF {p:Prop} [Decidable p] (h:¬ p):decide p=false:=yx h
theorem wr {x:Int} (h : -9223372036854775808≤x∧x≤9223372036854775807):IntKind.wrap .i64 x=x:=IntWalk.i64_in x h
theorem tn (i:Nat):Int.toNat (i:Int)=i:=Int.toNat_natCast i
theorem bneI {a b:Int} (h:a≠b):(a==b)=false:=by simp [h]
theorem qau {α:Type} {l:List α} (h:l.length≤1048576):lenOk l=true:=by unfold lenOk; rw [ym]; exact h
theorem bneT {a b:Int} (h:a≠b):(a != b)=true:=by simp [bne,h]
theorem bneF {a b:Int} (h:a=b):(a != b)=false:=by simp [h]
theorem qyu (ret:Bool→OA) (k0:OA) (hk:k0=ret false) (s:LU) (c:UInt8) (hl:s.length≤1048576):∀ (d i n:Nat),i+d=s.length→d < n →
 qeS ret k0 n s c (i:Nat)=ret ((s.drop i).contains c)
 | d,i,0,hi,hn=>by omega
 | 0,i,n+1,hi,hn=>by
  show qdw ret k0 (qeS ret k0 n) n _ _ _=_;unfold qdw;rw [dF (by omega),yd,yA (by omega),hk];rfl
 | d+1,i,n+1,hi,hn=>by
  show qdw ret k0 (qeS ret k0 n) n _ _ _=_;unfold qdw;have hlt:i < s.length:=by omega
  have ih:=qyu ret k0 hk s c hl d (i+1) n (by omega) (by omega);rw [qA (d:=(0:UInt8)) hlt,List.contains_cons];simp (disch:=omega) only [dT,yc,yi,tn,qn];rw [ih,show (s.getD i 0==c)=(c==s.getD i 0) from Bool.beq_comm];cases (c==s.getD i 0) <;> rfl
theorem qBY (s:LU) (c:UInt8) (hl:s.length≤1048576):∃ n,qnf n s c=qfV (z225 s c):=⟨s.length+1,by
 unfold qnf;have:=qyu qfV (qeT (s.length+1)) rfl s c hl s.length 0 (s.length+1) (by omega) (by omega);exact this⟩
theorem qBZ:∀ (s0:LU) (c1:UInt8),(qDv s0 c1=true)→∃ n,qnf n s0 c1=qfV (z225 s0 c1):=fun s c h=>qBY s c (qm h)
theorem qCa:∀ (c0:UInt8) (kinds1:Int),∃ n,qDY n c0 kinds1=qyk (z136 c0 kinds1):=fun _ _=>⟨0,rfl⟩
theorem qOo {P:UInt8→Prop} (h:∀ i:Fin 256,P (UInt8.ofNat i.val)) (c:UInt8):P c:=by
 have:=h ⟨c.toNat,c.toNat_lt⟩;simpa using this
theorem qOp (n:Int):Int.tmod (Int.tmod n 16+16) 16=n % 16:=by
 have h:Int.tmod n 16=n % 16∨Int.tmod n 16=n % 16 - 16:=by
  rcases Int.le_total 0 n with h | h
  ·exact .inl (Int.tmod_eq_emod_of_nonneg h)
  ·have h2:Int.tmod n 16 = -((-n) % 16):=by
    have:=Int.neg_tmod (-n) 16;rw [Int.neg_neg] at this;rw [this,Int.tmod_eq_emod_of_nonneg (by omega)]
   omega
 have h3:0≤Int.tmod n 16+16:=by omega
 rw [Int.tmod_eq_emod_of_nonneg h3];omega
theorem qpf (n:Int) : -16 < Int.tmod n 16∧Int.tmod n 16 < 16:=by
 have h:Int.tmod n 16=n % 16∨Int.tmod n 16=n % 16 - 16∧n % 16≠0:=by
  rcases Int.le_total 0 n with h | h
  ·exact .inl (Int.tmod_eq_emod_of_nonneg h)
  ·have h2:Int.tmod n 16 = -((-n) % 16):=by
    have:=Int.neg_tmod (-n) 16;rw [Int.neg_neg] at this;rw [this,Int.tmod_eq_emod_of_nonneg (by omega)]
   omega
 omega
theorem qpg:∀ j:Fin 16,(bif decide (((j.val:Nat):Int) < 10) then UInt8.ofNat (Int.toNat (IntKind.wrap .u8 (IntKind.wrap .i64 ((48:Int)+((j.val:Nat):Int)))))
 else UInt8.ofNat (Int.toNat (IntKind.wrap .u8 (IntKind.wrap .i64 ((IntKind.wrap .i64 ((65:Int)+((j.val:Nat):Int))) - (10:Int))))))=List.getD hexD j.val 0:=by decide +kernel
theorem qCb:∀ (n0:Int),(qdK n0=true)→∃ n,qyl n n0=qpb (z189 n0):=fun n _=>⟨0,by
 unfold qyl qeU z189;have hr:=qpf n;rw [IntWalk.i64_in (Int.tmod n 16+16) (by omega),qOp];have hj:(n % 16).toNat < 16:=by omega
 have:=qpg ⟨(n % 16).toNat,hj⟩;simp only [Int.toNat_of_nonneg (show 0≤n % 16 by omega)] at this;rw [← this];cases decide (n % 16 < 10) <;> rfl⟩
theorem qGj {P:UInt8→Prop} (h:∀ i:Fin 256,P (UInt8.ofNat i.val)) (c:UInt8):P c:=by
 have:=h ⟨c.toNat,c.toNat_lt⟩;simpa using this
theorem qni:∀ i:Fin 256,[z189 (IntKind.wrap .i64 (Int.tdiv (IntKind.wrap .i64 ((UInt8.toNat (UInt8.ofNat i.val):Nat):Int)) (16:Int))),z189 (Int.tmod (IntKind.wrap .i64 ((UInt8.toNat (UInt8.ofNat i.val):Nat):Int)) (16:Int))]=z219 (UInt8.ofNat i.val):=by decide +kernel
theorem qtm:∀ i:Fin 256,qdK (IntKind.wrap .i64 (Int.tdiv (IntKind.wrap .i64 ((UInt8.toNat (UInt8.ofNat i.val):Nat):Int)) (16:Int)))=true∧qdK (Int.tmod (IntKind.wrap .i64 ((UInt8.toNat (UInt8.ofNat i.val):Nat):Int)) (16:Int))=true ∧
 qdJ (IntKind.wrap .i64 ((UInt8.toNat (UInt8.ofNat (UInt8.toNat (UInt8.ofNat i.val) / 2 ^ (min (Int.toNat (4:Int)) 8))):Nat):Int))=true∧qdJ (IntKind.wrap .i64 ((UInt8.toNat (UInt8.ofNat i.val):Nat):Int))=true:=by decide +kernel
theorem qGk (c:UInt8):[z189 (IntKind.wrap .i64 (Int.tdiv (IntKind.wrap .i64 ((UInt8.toNat c:Nat):Int)) (16:Int))),z189 (Int.tmod (IntKind.wrap .i64 ((UInt8.toNat c:Nat):Int)) (16:Int))]=z219 c:=qGj (P:=fun c=>[z189 (IntKind.wrap .i64 (Int.tdiv (IntKind.wrap .i64 ((UInt8.toNat c:Nat):Int)) (16:Int))),z189 (Int.tmod (IntKind.wrap .i64 ((UInt8.toNat c:Nat):Int)) (16:Int))]=z219 c) qni c
theorem qLH (c:UInt8):qdK (IntKind.wrap .i64 (Int.tdiv (IntKind.wrap .i64 ((UInt8.toNat c:Nat):Int)) (16:Int)))=true∧qdK (Int.tmod (IntKind.wrap .i64 ((UInt8.toNat c:Nat):Int)) (16:Int))=true ∧
 qdJ (IntKind.wrap .i64 ((UInt8.toNat (UInt8.ofNat (UInt8.toNat c / 2 ^ (min (Int.toNat (4:Int)) 8))):Nat):Int))=true∧qdJ (IntKind.wrap .i64 ((UInt8.toNat c:Nat):Int))=true:=qGj (P:=fun c=>qdK (IntKind.wrap .i64 (Int.tdiv (IntKind.wrap .i64 ((UInt8.toNat c:Nat):Int)) (16:Int)))=true∧qdK (Int.tmod (IntKind.wrap .i64 ((UInt8.toNat c:Nat):Int)) (16:Int))=true ∧
 qdJ (IntKind.wrap .i64 ((UInt8.toNat (UInt8.ofNat (UInt8.toNat c / 2 ^ (min (Int.toNat (4:Int)) 8))):Nat):Int))=true∧qdJ (IntKind.wrap .i64 ((UInt8.toNat c:Nat):Int))=true) qtm c
theorem qCc:∀ (b0:LU) (sign1:UInt8) (c2:UInt8),(qqb b0 sign1 c2=true)→∃ n,qyn n b0 sign1 c2=qym (z137 b0 sign1 c2):=fun b sign c h=>⟨0,by
 have hl:=qm h;obtain ⟨h1,h2,_,_⟩:=qLH c;unfold qyn qiB qdf z137;rw [h1,h2,yo (by unfold room; simp; omega),yi,yc,yc,yo (by unfold room; simp; omega),yc,← qGk c];rfl⟩
theorem beqT {a b:Int} (h:a=b):(a==b)=true:=by simp [h]
theorem beqF {a b:Int} (h:a≠b):(a==b)=false:=by simp [h]
theorem qdC {t:LI} {p:Int→Bool} {k0:OA} {ret:Int→OA} {L:Nat→Int→OA} (hl:t.length≤1048576)
 (hL:∀ n (i:Nat),i < t.length→L (n+1) (i:Int)=bif p (t.getD i 0) then L n ((i+1:Nat):Int) else ret (i:Int)) (hE:∀ n,L (n+1) (t.length:Nat)=k0) :
 ∀ d i n:Nat,i+d=t.length→d < n→L n (i:Int)=bif qaW p (t.drop i) i == -1 then k0 else ret (qaW p (t.drop i) i)
 | d,i,0,hi,hn=>by omega
 | 0,i,n+1,hi,hn=>by
  obtain rfl:i=t.length:=by omega
  rw [hE,yA (by omega)];rfl
 | d+1,i,n+1,hi,hn=>by
  have hlt:i < t.length:=by omega
  rw [hL n i hlt,qdC hl hL hE d (i+1) n (by omega) (by omega),qA (d:=(0:Int)) hlt];rw [show qaW p (t.getD i 0 :: t.drop (i+1)) (i:Int)=bif p (t.getD i 0) then qaW p (t.drop (i+1)) ((i+1:Nat):Int) else (i:Int) from rfl];cases p (t.getD i 0) with
  | true=>rfl
  | false =>
   have:((i:Int) == -1)=false:=by simp only [yB,ne_eq]; omega
   simp [this]
theorem qCd:∀ (n0:Int),∃ n,qxv n n0=qia (z185 n0):=fun c=>⟨0,by
 unfold qxv z185;cases (c==(2:Int)) <;> cases (c==(3:Int)) <;> cases (c==(4:Int)) <;> rfl⟩
theorem qCe:∃ n,qDJ n  = qxt z176:=⟨0,rfl⟩
theorem qCf:∃ n,qDK n  = qxu z177:=⟨0,rfl⟩
theorem qGl {α β:Type} (f:α→β) (t:List α) (z:β) (i:Nat) (h:i < t.length) (d:α) :
 ((t.take i).map f++List.replicate (t.length - i) z).set i (f (t.getD i d))=(t.take (i+1)).map f++List.replicate (t.length - (i+1)) z:=by
 rw [List.set_append_right _ _ (by simp; omega)];have h1:((t.take i).map f).length=i:=by simp; omega
 rw [h1,Nat.sub_self,show t.length - i=(t.length - (i+1))+1 by omega,List.replicate_succ,List.set_cons_zero,List.take_succ_eq_append_getElem h,List.map_append,yl];simp [List.getD,h]
theorem qyv (x:UInt8):IntKind.wrap .i32 ((UInt8.toNat x:Nat):Int)=((UInt8.toNat x:Nat):Int):=IntWalk.i32_in _ (by have:=x.toNat_lt; omega)
theorem qGm:∀ (x0:UInt8),∃ n,qFW n x0=qdO (z90 x0):=fun x=>⟨0,by
 unfold qFW z90;rw [qyv];cases (x==(164:UInt8)) <;> cases (x==(166:UInt8)) <;> cases (x==(168:UInt8)) <;> cases (x==(180:UInt8)) <;> cases (x==(184:UInt8)) <;> cases (x==(188:UInt8)) <;> cases (x==(189:UInt8)) <;> cases (x==(190:UInt8)) <;> rfl⟩
theorem qGn:∀ (x0:UInt8),∃ n,qFX n x0=qrj (z91 x0):=fun x=>⟨0,by
 unfold qFX qlm z91;rw [qyv];have hx:=x.toNat_lt
 by_cases h1:x < 128
 ·rw [dT h1]; rfl
 ·by_cases h2:159 < x
  ·rw [dF h1,dT h2]; rfl
  ·rw [dF h1,dF h2];have h3:128≤x.toNat:=by have:=UInt8.not_lt.1 h1; exact UInt8.le_iff_toNat_le.1 this
   have h4:x.toNat≤159:=by have:=UInt8.not_lt.1 h2; exact UInt8.le_iff_toNat_le.1 this
   have h5:(x - 128).toNat=x.toNat - 128:=UInt8.toNat_sub_of_le _ _ (UInt8.not_lt.1 h1);rw [h5];simp (disch:=(first | omega | (simp; omega))) only [dT,yi,yc,yd,Bool.or_false,tn];rfl⟩
theorem qph {sign:UInt8→Int} {put:Int→UInt8×Bool} {c:Int} {L:Nat→Int→OA} {ret:UInt8→Bool→OA}
 (hL:∀ n i:Nat,i < 256→L (n+1) (i:Int)=bif sign (UInt8.ofNat i)==c then (bif c != 65533 then ret (UInt8.ofNat i) true else L n ((i+1:Nat):Int)) else L n ((i+1:Nat):Int)) (hE:∀ n,L (n+1) ((256:Nat):Int)=ret 0 false)
 (hA:∀ i:Nat,i < 256→sign (UInt8.ofNat i)=c→c≠65533→put c=(UInt8.ofNat i,true)) (hB:(put c).2=true→sign (put c).1=c∧c≠65533) (hC:(put c).2=false→(put c).1=0) :
 ∀ d i n:Nat,i+d=256→d < n→(∀ j:Nat,j < i→¬ (sign (UInt8.ofNat j)=c∧c≠65533))→L n (i:Int)=ret (put c).1 (put c).2
 | d,i,0,hi,hn,_=>by omega
 | 0,i,n+1,hi,hn,hno=>by
  obtain rfl:i=256:=by omega
  rw [hE];cases h:(put c).2 with
  | true =>
   have:=hB h;exact absurd (by simpa using this) (hno (put c).1.toNat (put c).1.toNat_lt)
  | false=>rw [hC h]
 | d+1,i,n+1,hi,hn,hno=>by
  have ih:¬ (sign (UInt8.ofNat i)=c∧c≠65533)→L n ((i+1:Nat):Int)=ret (put c).1 (put c).2:=fun h=>qph hL hE hA hB hC d (i+1) n (by omega) (by omega) fun j hj=>by
   by_cases e:j=i
   ·subst e; exact h
   ·exact hno j (by omega)
  rw [hL n i (by omega)]
  by_cases h1:sign (UInt8.ofNat i)=c
  ·by_cases h2:c=65533
   ·rw [beqT h1,bneF h2,yc,yd,ih (fun h=>h.2 h2)]
   ·rw [beqT h1,bneT h2,yc,yc,hA i (by omega) h1 h2]
  ·rw [beqF h1,yd,ih (fun h=>h1 h.1)]
theorem qiL {α β:Type} {t:List α} {dv:α} {f:α→List β} {q:α→Bool} {k0:List β→OA} {R:OA} {L:Nat→List β→Int→OA} {b:Nat} (hf:∀ x,(f x).length≤b)
 (hL:∀ (n i:Nat) (out:List β),i < t.length→out.length+b≤room→L (n+1) out (i:Int)=bif q (t.getD i dv) then L n (out++f (t.getD i dv)) ((i+1:Nat):Int) else R) (hE:∀ n out,L (n+1) out ((t.length:Nat):Int)=k0 out) :
 ∀ (d i n:Nat) (out:List β),i+d=t.length→d < n→out.length+b*d≤room→L n out (i:Int)=bif (t.drop i).all q then k0 (out++(t.drop i).flatMap f) else R
 | d,i,0,out,hi,hn,_=>by omega
 | 0,i,n+1,out,hi,hn,_=>by
  obtain rfl:i=t.length:=by omega
  rw [hE,yA (by omega)];simp
 | d+1,i,n+1,out,hi,hn,hb=>by
  have hlt:i < t.length:=by omega
  have hx:=hf (t.getD i dv);have hb':b*(d+1)=b*d+b:=by rw [Nat.mul_succ]
  have h0:0≤b*d:=Nat.zero_le _;rw [hL n i out hlt (by omega),qiL (α:=α) (β:=β) hf hL hE d (i+1) n _ (by omega) (by omega) (by rw [yn]; omega),qA (d:=dv) hlt];simp only [List.all_cons,List.flatMap_cons,yl];cases q (t.getD i dv) <;> rfl
theorem qGo:∀ (c0:Int),∃ n,qFU n c0=qyg (z77 c0):=fun c=>⟨0,by
 unfold qFU z77;cases decide ((55296:Int)≤c) <;> rfl⟩
theorem qGp:∀ (c0:Int),∃ n,qFV n c0=qrg (z36 c0):=fun c=>⟨0,by
 unfold qFV z36;cases decide ((0:Int)≤c) <;> cases decide (c≤(1114111:Int)) <;> rfl⟩
theorem qiM {p:Int→Bool} {t:LI} {k0:OA} {ret:Int→OA} {x:OA} (h:x=bif qaW p (t.drop 0) (0:Nat) == -1 then k0 else ret (qaW p (t.drop 0) (0:Nat))) (hk:k0=ret (-1)):x=ret (qaW p t 0):=by
 rw [h,yw];cases e:(qaW p t (0:Nat) == -1) with
 | true =>
  rw [beq_iff_eq] at e;have e':qaW p t 0 = -1:=e;rw [e',hk];rfl
 | false=>rfl
theorem qnj (c:Int):z184 c=0∨z184 c=1∨z184 c=2∨z184 c=3∨z184 c=4:=by
 unfold z184;cases z161 c <;> cases decide (c < (128:Int)) <;> cases decide (c < (2048:Int)) <;> cases decide (c < (65536:Int)) <;> simp
theorem qiX {c:Int} (h0:0≤c) (h1:c≤1114111):IntKind.wrap .i64 c=c:=IntWalk.i64_in c (by omega)
theorem qCg:∀ (c0:Int),∃ n,qyj n c0=qfR (z135 c0):=fun c=>⟨0,by
 unfold qyj qiy qeR z135;cases h:z36 c with
 | false=>rfl
 | true =>
  unfold z36 at h;simp only [yf,ym] at h;have e1:Int.tdiv c 64=c / 64:=Int.tdiv_eq_ediv_of_nonneg h.1;have e2:Int.tdiv c 4096=c / 4096:=Int.tdiv_eq_ediv_of_nonneg h.1;have e3:Int.tdiv c 262144=c / 262144:=Int.tdiv_eq_ediv_of_nonneg h.1;have e4:Int.tmod c 64=c % 64:=Int.tmod_eq_emod_of_nonneg h.1;have e5:Int.tmod (c / 64) 64=c / 64 % 64:=Int.tmod_eq_emod_of_nonneg (by omega);have e6:Int.tmod (c / 4096) 64=c / 4096 % 64:=Int.tmod_eq_emod_of_nonneg (by omega);rw [qiX h.1 h.2.1,e1,e2,e3,e4,qiX (c:=c / 64) (by omega) (by omega),qiX (c:=c / 4096) (by omega) (by omega),qiX (c:=c / 262144) (by omega) (by omega),e5,e6,
   qiX (c:=192+c / 64) (by omega) (by omega),qiX (c:=128+c % 64) (by omega) (by omega),qiX (c:=224+c / 4096) (by omega) (by omega),qiX (c:=128+c / 64 % 64) (by omega) (by omega),
   qiX (c:=240+c / 262144) (by omega) (by omega),qiX (c:=128+c / 4096 % 64) (by omega) (by omega)]
  cases decide (c < (128:Int)) <;> cases decide (c < (2048:Int)) <;> cases decide (c < (65536:Int)) <;> rfl⟩
theorem qCh:∀ (x0:UInt8),∃ n,qDW n x0=qyh (z187 x0):=fun _=>⟨0,rfl⟩
theorem qtn (i:Int) (h0:0≤i) (h1:i < 256):z187 (UInt8.ofNat (Int.toNat (IntKind.wrap .u8 i)))=i:=by
 unfold z187;rw [IntWalk.u8_in i (by omega),UInt8.toNat_ofNat',Nat.mod_eq_of_lt (by omega),IntWalk.i32_in _ (by omega)];omega
theorem qrq (ret:UInt8→Bool→OA) (k0:OA) (c:Int):∀ (d:Nat) (i:Int) (n:Nat),i=256 - d→0≤i→d < n →
 qgl ret k0 n c i=bif decide (i≤c)&&decide (c < 256) then ret (UInt8.ofNat c.toNat) true else k0
 | d,i,0,hi,h0,hn=>by omega
 | 0,i,n+1,hi,h0,hn=>by
  obtain rfl:i=256:=by omega
  have h1:(decide ((256:Int)≤c)&&decide (c < 256))=false:=by
   simp only [Bool.and_eq_false_iff,decide_eq_false_iff_not]; omega
  rw [h1];rfl
 | d+1,i,n+1,hi,h0,hn=>by
  have hlt:i < 256:=by omega
  show qgR ret k0 (qgl ret k0 n) n c i=_;unfold qgR;rw [yo hlt,yc,qtn i h0 hlt,IntWalk.i64_in (i+1) (by omega),qrq ret k0 c d (i+1) n (by omega) (by omega) (by omega)]
  by_cases e:i=c
  ·subst e;have h1:(i != 65533)=true:=by simp only [bne_iff_ne,ne_eq]; omega
   rw [beq_self_eq_true,yc,h1,yc,yo (Int.le_refl i),yo hlt,IntWalk.u8_in i (by omega)];rfl
  ·have h1:(i==c)=false:=by simp [e]
   have h2:decide (i+1≤c)=decide (i≤c):=by simp only [decide_eq_decide]; omega
   rw [h1,yd,h2]
theorem qCi:∀ (c0:Int),∃ n,qrh n c0=qll (z132 c0).1 (z132 c0).2:=fun c=>⟨257,by
 unfold qrh z132;rw [qrq _ _ c 256 0 257 (by omega) (by omega) (by omega)];cases decide (0≤c)&&decide (c < 256) <;> rfl⟩
theorem qyw (i:Nat) (h:i < 256):UInt8.ofNat (Int.toNat (IntKind.wrap .u8 (i:Int)))=UInt8.ofNat i:=by
 rw [IntWalk.u8_in _ (by omega)]; simp
theorem qOq:∀ i:Fin 256,z127 (z90 (UInt8.ofNat i.val))=(UInt8.ofNat i.val,true):=by decide +kernel
theorem qOr:∀ i:Fin 256,((z127 ((i.val:Nat):Int)).2=true→z90 (z127 ((i.val:Nat):Int)).1=((i.val:Nat):Int))∧((z127 ((i.val:Nat):Int)).2=false→(z127 ((i.val:Nat):Int)).1=0):=by decide +kernel
theorem qOs:∀ c∈([8364,352,353,381,382,338,339,376]:LI),(z127 c).2=true∧z90 (z127 c).1=c∧c≠65533:=by decide +kernel
theorem qGq {c:Int} (h:c ∉ ([8364,352,353,381,382,338,339,376]:LI)) (hc:c < 0∨256≤c):z127 c=(0,false):=by
 simp only [List.mem_cons,List.not_mem_nil,or_false,not_or] at h;obtain ⟨h1,h2,h3,h4,h5,h6,h7,h8⟩:=h;unfold z127;simp (disch:=omega) only [beqF,yd];rw [show (decide (c < 0)||decide (256≤c))=true by simp; omega];rfl
theorem qnk (c:Int):((z127 c).2=true→z90 (z127 c).1=c∧c≠65533)∧((z127 c).2=false→(z127 c).1=0):=by
 by_cases h:c∈([8364,352,353,381,382,338,339,376]:LI)
 ·have:=qOs c h;exact ⟨fun _=>this.2,fun e=>by rw [this.1] at e; cases e⟩
 ·by_cases hc:c < 0∨256≤c
  ·rw [qGq h hc]; exact ⟨(fun e=>by cases e),fun _=>rfl⟩
  ·have hb:=qOr ⟨c.toNat,by omega⟩;simp only [Int.toNat_of_nonneg (show 0≤c by omega)] at hb;exact ⟨fun e=>⟨hb.1 e,by omega⟩,hb.2⟩
theorem qCj:∀ (c0:Int),∃ n,qri n c0=qiu (z133 c0).1 (z133 c0).2:=fun c=>⟨257,by
 unfold qri z133;refine qph (sign:=z90) (put:=z127) (L:=fun n i=>qiv qiu (qeP 257) n c i) (fun n i hi=>?_) (fun n=>rfl) (fun i hi h1 h2=>?_) (qnk c).1 (qnk c).2 256 0 257 (by omega) (by omega) (fun j hj=>by omega)
 ·show qgT _ _ _ n _ _=_;unfold qgT;simp (disch:=omega) only [dT,yc,qn,qyw]
 ·have:=qOq ⟨i,hi⟩;rw [← h1];exact this⟩
theorem win_A:∀ i:Fin 256,z91 (UInt8.ofNat i.val)≠65533→z129 (z91 (UInt8.ofNat i.val))=(UInt8.ofNat i.val,true):=by decide +kernel
theorem win_B:∀ i:Fin 256,((z129 ((i.val:Nat):Int)).2=true→z91 (z129 ((i.val:Nat):Int)).1=((i.val:Nat):Int))∧((z129 ((i.val:Nat):Int)).2=false→(z129 ((i.val:Nat):Int)).1=0):=by decide +kernel
theorem win_C:∀ c∈z177,256≤c→(z129 c).2=true∧z91 (z129 c).1=c∧c≠65533:=by decide +kernel
theorem qyx (c:Int):∀ (l:LI) (i:Int),0≤i→c ∉ l→qaW (fun x => !(c==x)) l i = -1
 | [],_,_,_=>rfl
 | x :: r,i,hi,h=>by
  simp only [List.mem_cons,not_or] at h;unfold qaW;rw [beqF h.1];exact qyx c r (i+1) (by omega) h.2
theorem qLI {c:Int} (h:c ∉ z177) (hc:c < 0∨256≤c):z129 c=(0,false):=by
 unfold z129 z186;rw [qyx c _ 0 (by omega) h,show ((decide (0≤c)&&decide (c < 128))||(decide (160≤c)&&decide (c < 256)))=false by simp; omega];cases decide (c < 256) <;> rfl
theorem qrr (c:Int):((z129 c).2=true→z91 (z129 c).1=c∧c≠65533)∧((z129 c).2=false→(z129 c).1=0):=by
 by_cases hc:c < 0∨256≤c
 ·by_cases h:c∈z177
  ·by_cases h0:c < 0
   ·have:∀ c∈z177,0≤c:=by decide +kernel
    have:=this c h;omega
   ·have:=win_C c h (by omega);exact ⟨fun _=>this.2,fun e=>by rw [this.1] at e; cases e⟩
  ·rw [qLI h hc]; exact ⟨(fun e=>by cases e),fun _=>rfl⟩
 ·have hb:=win_B ⟨c.toNat,by omega⟩;simp only [Int.toNat_of_nonneg (show 0≤c by omega)] at hb;exact ⟨fun e=>⟨hb.1 e,by omega⟩,hb.2⟩
theorem qCk:∀ (c0:Int),∃ n,qrk n c0=qiw (z134 c0).1 (z134 c0).2:=fun c=>⟨257,by
 unfold qrk z134;refine qph (sign:=z91) (put:=z129) (L:=fun n i=>qix qiw (qeQ 257) n c i) (fun n i hi=>?_) (fun n=>rfl) (fun i hi h1 h2=>?_) (qrr c).1 (qrr c).2 256 0 257 (by omega) (by omega) (fun j hj=>by omega)
 ·show qgU _ _ _ n _ _=_;unfold qgU;simp (disch:=omega) only [dT,yc,qn,qyw]
 ·have:=win_A ⟨i,hi⟩;rw [← h1] at h2 ⊢;exact this h2⟩
theorem qaT {α β:Type} (g:α→β):∀ l:List α,l.flatMap (fun x=>[g x])=l.map g
 | []=>rfl
 | x :: r=>by rw [List.flatMap_cons,qaT g r]; rfl
theorem qCl:∀ (charset0:Int) (c1:Int),∃ n,qyi n charset0 c1=qde (z131 charset0 c1):=fun cs c=>⟨0,by
 unfold qyi z131;cases (cs==(1:Int)) <;> cases (cs==(2:Int)) <;> cases (cs==(3:Int)) <;> cases (cs==(4:Int)) <;> cases (cs==(5:Int)) <;> cases decide ((0:Int)≤c) <;> rfl⟩
theorem qyy (c:Int):(z126 [] c).1.length≤4:=by
 unfold z126;rcases qnj c with e | e | e | e | e <;> rw [e] <;> simp
theorem qGr:∀ (charset0:Int) (c1:Int),∃ n,qFY n charset0 c1=qiz (z71 charset0 c1):=fun cs c=>⟨0,by
 unfold qFY z71;cases z131 cs c <;> cases (cs==(1:Int)) <;> cases (cs==(2:Int)) <;> cases (cs==(3:Int)) <;> cases (cs==(4:Int)) <;> rfl⟩
theorem qCm (c:Int):(z135 c).length≤4:=by
 unfold z135;cases z36 c <;> cases decide (c < (128:Int)) <;> cases decide (c < (2048:Int)) <;> cases decide (c < (65536:Int)) <;> simp
theorem qnl (cs c:Int):(z71 cs c).length≤4:=by
 unfold z71;have:=qCm c;cases z131 cs c <;> cases (cs==(1:Int)) <;> cases (cs==(2:Int)) <;> cases (cs==(3:Int)) <;> cases (cs==(4:Int)) <;> simp [this]
theorem qGs:∀ (charset0:Int) (t1:LI),(qzN charset0 t1=true)→∃ n,qBN n charset0 t1=qgm (z32 charset0 t1).1 (z32 charset0 t1).2:=fun cs t h=>⟨t.length+1,by
 have hl:=qm (l:=t) h;unfold qBN z32;cases decide (cs < 1) <;> cases decide (5 < cs)
 ·have:=qiL (t:=t) (dv:=0) (f:=z71 cs) (q:=fun c=>(z71 cs c).length != 0) (b:=4) (k0:=qfT (t.length+1)) (R:=qgm [] 9)
   (L:=fun n out i=>qpa qgm (qfT (t.length+1)) n cs t out i) (qnl cs) (fun n i out hi hb=>by
    show qfS _ _ _ n _ _ _ _=_;unfold qfS;have hp:=qnl cs (t.getD i 0);simp (disch:=omega) only [dT,yc,yi,tn,qn];rw [show ((((z71 cs (t.getD i 0)).length:Nat):Int)==0) = !((z71 cs (t.getD i 0)).length != 0) from by
     cases (z71 cs (t.getD i 0)).length <;> rfl]
    cases (z71 cs (t.getD i 0)).length != 0 <;> rfl) (fun n out=>by
    show qfS _ _ _ n _ _ _ _=_;unfold qfS;rw [dF (by omega)];rfl) t.length 0 (t.length+1) [] (by omega) (by omega) (by unfold room; simp; omega)
  refine this.trans ?_;rw [yw];simp only [Bool.or_self,yd,List.nil_append];cases t.all (fun c=>(z71 cs c).length != 0) <;> rfl
 ·rfl
 ·rfl
 ·rfl⟩
theorem qiN {t:LI} (h:i32s t=true) {c:Int} (hc:c∈t) : -2147483648≤c∧c≤2147483647:=by
 unfold i32s at h;rw [List.all_eq_true] at h;simpa using h c hc
theorem qLJ {c:Int} (h : -2147483648≤c∧c≤2147483647):IntKind.wrap .u32 c=if 0≤c then c else c+4294967296:=by
 by_cases h0:0≤c
 ·rw [if_pos h0,IntWalk.u32_in c (by omega)]
 ·rw [if_neg h0];have:IntKind.wrap .u32 c=c % 4294967296:=rfl;rw [this]; omega
theorem qlt {c:Int} (h : -2147483648≤c∧c≤2147483647):z161 c=z36 c:=by
 unfold z161 z36;rw [show z77 c=z211 c from rfl,← Bool.and_assoc,qLJ h];congr 1;rw [Bool.eq_iff_iff];simp only [yf,ym];split <;> omega
theorem qpi {c:Int} (h : -2147483648≤c∧c≤2147483647):z158 c=(z132 c).2:=by
 unfold z158 z132;rw [qLJ h];have:decide ((if 0≤c then c else c+4294967296) < 256)=(decide (0≤c)&&decide (c < 256)):=by
  rw [Bool.eq_iff_iff];simp only [yf,ym];split <;> omega
 rw [this];cases (decide (0≤c)&&decide (c < 256)) <;> rfl
theorem qOt (cs:Int) {c:Int} (h : -2147483648≤c∧c≤2147483647):z105 cs c=z131 cs c:=by
 unfold z105 z131;rw [qpi h,qlt h];rfl
theorem qpj (p:Int→Bool):∀ (t:LI) (i:Int),0≤i→(qaW p t i = -1∧t.all p=true)∨(0≤qaW p t i∧t.all p=false)
 | [],_,_=>.inl ⟨rfl,rfl⟩
 | x :: r,i,hi=>by
  rw [show qaW p (x :: r) i=bif p x then qaW p r (i+1) else i from rfl,List.all_cons];cases p x with
  | true=>simpa using qpj p r (i+1) (by omega)
  | false=>exact .inr ⟨hi,rfl⟩
theorem qpk (p:Int→Bool) (t:LI):(qaW p t 0 == -1)=t.all p:=by
 rcases qpj p t 0 (by omega) with ⟨h1,h2⟩ | ⟨h1,h2⟩
 ·rw [h1,h2]; rfl
 ·rw [h2,beqF (by omega)]
theorem qyz (p:Int→Bool) (t:LI):(qaW p t 0 != -1) = !(t.all p):=by rw [← qpk]; rfl
theorem qLK (p:Int→Bool) (t:LI):decide (0≤qaW p t 0) = !(t.all p):=by
 rcases qpj p t 0 (by omega) with ⟨h1,h2⟩ | ⟨h1,h2⟩
 ·rw [h1,h2]; rfl
 ·rw [h2,dT h1]; rfl
theorem qLL {p q:Int→Bool} {t:LI} (h:∀ c∈t,p c=q c):t.all p=t.all q:=by
 rw [Bool.eq_iff_iff,List.all_eq_true,List.all_eq_true];exact ⟨fun k c hc=>by rw [← h c hc]; exact k c hc,fun k c hc=>by rw [h c hc]; exact k c hc⟩
theorem qcj {f g:Int→LU}:∀ {t:LI},(∀ c∈t,f c=g c)→t.flatMap f=t.flatMap g
 | [],_=>rfl
 | x :: r,h=>by rw [List.flatMap_cons,List.flatMap_cons,h x (by simp),qcj fun c hc=>h c (by simp [hc])]
theorem lead2:∀ i:Fin 32,(192:UInt8) ||| oct8 ((i.val:Nat):Int)=oct8 (192+((i.val:Nat):Int)):=by decide +kernel
theorem lead3:∀ i:Fin 16,(224:UInt8) ||| oct8 ((i.val:Nat):Int)=oct8 (224+((i.val:Nat):Int)):=by decide +kernel
theorem lead4:∀ i:Fin 8,(240:UInt8) ||| oct8 ((i.val:Nat):Int)=oct8 (240+((i.val:Nat):Int)):=by decide +kernel
theorem qyA:∀ i:Fin 256,foll ((i.val:Nat):Int)=oct8 (128+((i.val:Nat):Int) % 64):=by decide +kernel
theorem qGt (n:Int):oct8 n=oct8 (n % 256):=by
 unfold oct8;have:IntKind.wrap .u8 n=n % 256:=rfl;have h2:IntKind.wrap .u8 (n % 256)=n % 256 % 256:=rfl;rw [this,h2]; congr 1; congr 1; omega
theorem qLM (n:Int):foll n=oct8 (128+n % 64):=by
 have h:=qyA ⟨(n % 256).toNat,by omega⟩;simp only [Int.toNat_of_nonneg (show 0≤n % 256 by omega)] at h;rw [show n % 256 % 64=n % 64 by omega] at h;rw [← h];unfold foll;rw [← qGt]
theorem qOu {c:Int} (h:z36 c=true) (h32 : -2147483648≤c∧c≤2147483647):(z126 [] c).1=z135 c:=by
 have hs:=(qlt h32).trans h;have hr:0≤c∧c≤1114111:=by
  unfold z36 at h;simp only [yf,ym] at h;exact ⟨h.1,h.2.1⟩
 unfold z126 z184 z135;rw [hs,h];simp only [Bool.not_true,yd,qLM,Int.fdiv_eq_ediv_of_nonneg _ (show (0:Int)≤2 ^ 18 by decide),Int.fdiv_eq_ediv_of_nonneg _ (show (0:Int)≤2 ^ 12 by decide),Int.fdiv_eq_ediv_of_nonneg _ (show (0:Int)≤2 ^ 6 by decide),Int.fdiv_eq_ediv_of_nonneg _ (show (0:Int)≤2 ^ 0 by decide)];rw [show (2:Int) ^ 18=262144 from rfl,show (2:Int) ^ 12=4096 from rfl,show (2:Int) ^ 6=64 from rfl,show (2:Int) ^ 0=1 from rfl,Int.ediv_one]
 by_cases h1:c < 128
 ·rw [dT h1];show [(0:UInt8) ||| oct8 c]=[oct8 c];rw [UInt8.zero_or]
 ·rw [dF h1]
  by_cases h2:c < 2048
  ·rw [dT h2];have:=lead2 ⟨(c / 64).toNat,by omega⟩;simp only [Int.toNat_of_nonneg (show 0≤c / 64 by omega)] at this;show [(192:UInt8) ||| oct8 (c / 64),oct8 (128+c % 64)]=_;rw [this]; rfl
  ·rw [dF h2]
   by_cases h3:c < 65536
   ·rw [dT h3];have:=lead3 ⟨(c / 4096).toNat,by omega⟩;simp only [Int.toNat_of_nonneg (show 0≤c / 4096 by omega)] at this;show [(224:UInt8) ||| oct8 (c / 4096),oct8 (128+c / 64 % 64),oct8 (128+c % 64)]=_;rw [this]; rfl
   ·rw [dF h3];have:=lead4 ⟨(c / 262144).toNat,by omega⟩;simp only [Int.toNat_of_nonneg (show 0≤c / 262144 by omega)] at this;show [(240:UInt8) ||| oct8 (c / 262144),oct8 (128+c / 4096 % 64),oct8 (128+c / 64 % 64),oct8 (128+c % 64)]=_;rw [this]; rfl
theorem qCn {cs c:Int} (h:cs=1∨cs=2∨cs=3∨cs=4∨cs=5):((z71 cs c).length != 0)=z131 cs c:=by
 unfold z71;cases hh:z131 cs c with
 | false=>rfl
 | true =>
  rcases h with rfl | rfl | rfl | rfl | rfl
  ·rfl
  ·rfl
  ·rfl
  ·rfl
  ·have h3:z36 c=true:=hh;show ((z135 c).length != 0)=true;unfold z135;rw [h3];cases decide (c < (128:Int)) <;> cases decide (c < (2048:Int)) <;> cases decide (c < (65536:Int)) <;> rfl
theorem qLN {cs:Int} (h:cs=1∨cs=2∨cs=3∨cs=4∨cs=5):0 < z65 cs:=by
 rcases h with rfl | rfl | rfl | rfl | rfl <;> decide
theorem qOv (cs:Int) (t:LI) (h:i32s t=true):z31 cs t=z32 cs t:=by
 by_cases hcs:cs=1∨cs=2∨cs=3∨cs=4∨cs=5
 ·have hsz:=qLN hcs;unfold z31 z32 z66 z124;rw [beqF (show z65 cs≠0 by omega),dT hsz,qpk,dF (show ¬ cs < 1 by omega),dF (show ¬ 5 < cs by omega),qLL (q:=z131 cs) (fun c hc=>qOt cs (qiN h hc)),qLL (p:=fun c=>(z71 cs c).length != 0) (q:=z131 cs) (fun c _=>qCn hcs)];cases ha:t.all (z131 cs) with
  | false=>rfl
  | true =>
   rw [List.all_eq_true] at ha;show (bif cs==5 then z67 t else _)=(t.flatMap (z71 cs),0);rcases hcs with rfl | rfl | rfl | rfl | rfl
   ·show z70 t=_;have h2:t.all z158=true:=List.all_eq_true.2 fun c hc=>by
     have:=ha c hc;rw [qpi (qiN h hc)];unfold z132;have h3:(decide (0≤c)&&decide (c < 128))=true:=this;simp only [yf,ym] at h3;rw [dT h3.1,dT (show c < 256 by omega)]; rfl
    unfold z70 z130;rw [qyz,h2];show (t.map _,(0:Int))=_;rw [← qaT];congr 1;exact qcj fun c hc=>by
     unfold z71;rw [ha c hc]; rfl
   ·show z70 t=_;have h2:t.all z158=true:=List.all_eq_true.2 fun c hc=>by rw [qpi (qiN h hc)]; exact ha c hc
    unfold z70 z130;rw [qyz,h2];show (t.map _,(0:Int))=_;rw [← qaT];congr 1;exact qcj fun c hc=>by
     have h3:(z132 c).2=true:=ha c hc;unfold z71;rw [ha c hc];show _=[(z132 c).1];unfold z132 at h3 ⊢;cases h4:(decide (0≤c)&&decide (c < 256)) with
     | false=>rw [h4] at h3; cases h3
     | true =>
      simp only [yf,ym] at h4;rw [IntWalk.u8_in c (by omega)]; rfl
   ·show z68 t=_;unfold z68;rw [show t.all z159=true from List.all_eq_true.2 ha];show (t.map _,(0:Int))=_;rw [← qaT];congr 1;exact qcj fun c hc=>by
     unfold z71;rw [ha c hc]; rfl
   ·show z69 t=_;unfold z69 z128;rw [qLK,show t.all z160=true from List.all_eq_true.2 ha];show (t.map _,(0:Int))=_;rw [← qaT];congr 1;exact qcj fun c hc=>by
     unfold z71;rw [ha c hc]; rfl
   ·show z67 t=_;unfold z67 z125;rw [qpk,show t.all z161=true from List.all_eq_true.2 fun c hc=>(qlt (qiN h hc)).trans (ha c hc)];show (t.flatMap _,(0:Int))=_;congr 1;exact qcj fun c hc=>by
     have h3:z36 c=true:=ha c hc;unfold z71;rw [ha c hc,qOu h3 (qiN h hc)]; rfl
 ·simp only [not_or] at hcs;obtain ⟨h1,h2,h3,h4,h5⟩:=hcs;unfold z31 z32 z65;simp only [beqF h1,beqF h2,beqF h3,beqF h4,beqF h5,yd];rw [show (decide (cs < 1)||decide (5 < cs))=true by simp; omega];rfl
theorem qrs {f:Int→LU} (h:∀ c,(f c).length≤4):∀ t:LI,(t.flatMap f).length≤4*t.length
 | []=>by simp
 | c :: t=>by
  have h1:=qrs h t;have h2:=h c;rw [List.flatMap_cons,yn,yg];omega
theorem qCo (t:LI):(z70 t).1.length≤t.length:=by
 unfold z70;cases z130 t != -1 <;> simp
theorem qnm (cs:Int) (t:LI):(z31 cs t).1.length≤4*t.length:=by
 have h1:(z67 t).1.length≤4*t.length:=by
  unfold z67;have:=qrs qyy t;cases !(z125 t) with
  | true=>exact Nat.zero_le _
  | false=>exact this
 have h2:(z68 t).1.length≤4*t.length:=by
  unfold z68;cases t.all z159 <;> simp <;> omega
 have h3:(z69 t).1.length≤4*t.length:=by
  unfold z69;cases decide (0≤z128 t) <;> simp <;> omega
 have h4:(z70 t).1.length≤4*t.length:=by
  have:=qCo t;omega
 unfold z31;cases (z65 cs==0) <;> cases z66 cs t <;> cases (cs==(5:Int)) <;> cases (cs==(3:Int)) <;> cases (cs==(4:Int)) <;> first | exact Nat.zero_le _ | assumption
structure PutI (name cs:LU) (i:Nat) (st:PutT):Prop where
 e:st.1=true→i=0
 n:st.2.2.length+(bif st.1 then 0 else 1)≤i
 l:st.2.1.length≤name.length+cs.length+100
 l0:st.1=true→st.2.1.length≤name.length+cs.length+7
theorem qcB (ret:List Bool→Bool→OA) (k0:List Bool→OA) (cs:LU) (ha:ascii cs=true) (hl:cs.length≤1048576):∀ (d i n:Nat) (a:List Bool),i+d=cs.length→d < n →
 qeF ret k0 n cs a (i:Nat)=k0 (setOf (cs.drop i) a)
 | d,i,0,a,hi,hn=>by omega
 | 0,i,n+1,a,hi,hn=>by
  show qdn ret k0 (qeF ret k0 n) n cs a _=_;unfold qdn;rw [yx (by omega),yd,yA (by omega)];rfl
 | d+1,i,n+1,a,hi,hn=>by
  show qdn ret k0 (qeF ret k0 n) n cs a _=_;unfold qdn;have hlt:i < cs.length:=by omega
  have hc:decide ((128:UInt8)≤List.getD cs i 0)=false:=by
   unfold ascii at ha;rw [List.all_eq_true] at ha;have:=ha (cs.getD i 0) (by simp [List.getD,hlt]);rw [decide_eq_false_iff_not];simp only [ym] at this;exact UInt8.not_le.2 this
  rw [qnB,yo hlt,yc,qaV,y5,yc,qbM,hc,yd,qaV,qnh,y5,yc,qn (by omega),
   qcB ret k0 cs ha hl d (i+1) n _ (by omega) (by omega),qA (d:=0) hlt]
  rfl
theorem qCp:∀ (chars0:LU),(qjh chars0=true)→∃ n,qxg n chars0=qhX (z167 chars0).1 (z167 chars0).2:=fun cs h=>⟨cs.length+1,by
 unfold qjh at h;rw [yf] at h;exact qcB qhX (qeG (cs.length+1)) cs h.1 (qm h.2) cs.length 0 (cs.length+1) _ (by omega) (by omega)⟩
theorem qCq:∀ (as0:List Bool) (c1:UInt8),∃ n,qxi n as0 c1=qxh (z168 as0 c1):=fun as c=>⟨0,by
 unfold qxi;rw [qaV,qnh];rfl⟩
theorem qCr:∀ (a0:LU) (b1:LU),∃ n,qDE n a0 b1=qxj (z194 a0 b1):=fun _ _=>⟨0,rfl⟩
theorem qGu:∀ (b0:LU) (c1:UInt8),∃ n,qLF n b0 c1=qDC (z80 b0 c1):=fun _ _=>⟨0,rfl⟩
theorem qyB (ret:Bool→OA) (a b:LI) (hab:a.length=b.length) (hl:a.length≤1048576):∀ (d i n:Nat),i+d=a.length→d < n →
 qlh ret (ret true) n a b (i:Nat)=ret (decide (a.drop i=b.drop i))
 | d,i,0,hi,hn=>by omega
 | 0,i,n+1,hi,hn=>by
  show qfP ret (ret true) (qlh ret (ret true) n) n a b _=_;unfold qfP;rw [yx (by omega),yd,yA (by omega),yA (by omega)];rfl
 | d+1,i,n+1,hi,hn=>by
  show qfP ret (ret true) (qlh ret (ret true) n) n a b _=_;unfold qfP;have hlt:i < a.length:=by omega
  have hlt':i < b.length:=by omega
  have ih:=qyB ret a b hab hl d (i+1) n (by omega) (by omega);simp (disch:=omega) only [dT,yc,yi,tn,qn];rw [ih,qrp hlt hlt' 0];cases (a.getD i 0 != b.getD i 0) <;> rfl
theorem qGv:∀ (a0:LI) (b1:LI),(qzO a0 b1=true)→∃ n,qBL n a0 b1=qjn (z11 a0 b1):=fun a b h=>⟨a.length+1,by
 unfold qBL z11
 by_cases hab:a.length=b.length
 ·rw [show (((a.length:Nat):Int) != ((b.length:Nat):Int))=false by simp [hab],yd];exact qyB qjn a b hab (qm h) a.length 0 (a.length+1) (by omega) (by omega)
 ·rw [show (((a.length:Nat):Int) != ((b.length:Nat):Int))=true by simp only [bne_iff_ne,ne_eq]; omega,yc,yx (fun e=>hab (by rw [e]))]⟩
theorem qGw:∀ (s0:LU) (sep1:LU),(qsj s0 sep1=true)→∃ n,qFK n s0 sep1=qxy (z82 s0 sep1).1 (z82 s0 sep1).2.1 (z82 s0 sep1).2.2:=fun s sep h=>⟨0,by
 have h0:=h;unfold qsj at h;rw [yf] at h;have hl:=qm h.1;have hl2:=qm (yf _ _ ▸ h.2).1;unfold qFK z82 z143;rw [show qhD s sep=true from h0]
 by_cases h1:0≤Lib.index s sep
 ·have hr:=Lib.index_room s sep h1;have e:IntKind.wrap .i64 (Lib.index s sep+((sep.length:Nat):Int))=Lib.index s sep+((sep.length:Nat):Int):=IntWalk.i64_in _ (by omega);rw [e,yo h1,yo (show (0:Int)≤((0:Nat):Int) by omega),yo (show ((0:Nat):Int)≤Lib.index s sep by omega),yo (show Lib.index s sep≤((s.length:Nat):Int) by omega),
   yo (show (0:Int)≤Lib.index s sep+((sep.length:Nat):Int) by omega),yo (show Lib.index s sep+((sep.length:Nat):Int)≤((s.length:Nat):Int) by omega),yo (Int.le_refl ((s.length:Nat):Int)),qbM,qbM,List.take_length,
   show Int.toNat (Lib.index s sep+((sep.length:Nat):Int))=(Lib.index s sep).toNat+sep.length by omega]
  rfl
 ·rw [yx h1]; rfl⟩
theorem and15 (n:Int):bits .and .i64 n 15=n % 16:=by
 have h:(BitVec.ofInt 64 n &&& BitVec.ofInt 64 15).toNat=(n % 16).toNat:=by
  rw [BitVec.toNat_and];have h1:(BitVec.ofInt 64 15).toNat=2 ^ 4 - 1:=by decide
  rw [h1,Nat.and_two_pow_sub_one_eq_mod,BitVec.toNat_ofInt];omega
 show IntKind.wrap .i64 (((BitVec.ofInt 64 n &&& BitVec.ofInt 64 15).toNat:Nat):Int)=_;rw [h,IntWalk.i64_in _ (by omega)];omega
theorem qCs:∀ (n0:Int),(qdJ n0=true)→∃ n,qxE n n0=qxD (z239 n0):=fun n _=>⟨0,by
 unfold qxE z239;rw [and15];have h0:(0:Int)≤n % 16:=by omega
 have h1:n % 16 < (((([48,49,50,51,52,53,54,55,56,57,65,66,67,68,69,70]:LU).length:Nat)):Int):=by simp; omega
 rw [yo h0,yo h1];rfl⟩
theorem qyC:∀ i:Fin 256,[z239 (IntKind.wrap .i64 ((UInt8.toNat (UInt8.ofNat (UInt8.toNat (UInt8.ofNat i.val) / 2 ^ (min (Int.toNat (4:Int)) 8))):Nat):Int)),z239 (IntKind.wrap .i64 ((UInt8.toNat (UInt8.ofNat i.val):Nat):Int))]=z219 (UInt8.ofNat i.val):=by decide +kernel
theorem boths (c:UInt8):[z239 (IntKind.wrap .i64 ((UInt8.toNat (UInt8.ofNat (UInt8.toNat c / 2 ^ (min (Int.toNat (4:Int)) 8))):Nat):Int)),z239 (IntKind.wrap .i64 ((UInt8.toNat c:Nat):Int))]=z219 c:=qGj (P:=fun c=>[z239 (IntKind.wrap .i64 ((UInt8.toNat (UInt8.ofNat (UInt8.toNat c / 2 ^ (min (Int.toNat (4:Int)) 8))):Nat):Int)),z239 (IntKind.wrap .i64 ((UInt8.toNat c:Nat):Int))]=z219 c) qyC c
theorem qCt:∀ (c0:UInt8),∃ n,qxG n c0=qxF (z219 c0):=fun c=>⟨0,by
 obtain ⟨_,_,h1,h2⟩:=qLH c;unfold qxG;rw [h1,h2,boths];rfl⟩
theorem qCu:∀ (b0:LU) (sign1:UInt8) (c2:UInt8),(qqa b0 sign1 c2=true)→∃ n,qxI n b0 sign1 c2=qxH (z179 b0 sign1 c2):=fun b sign c h=>⟨0,by
 have hl:=qm h;unfold qxI z179 qdM z153;rw [show lenOk b=true from h,yi,yc,yo (by unfold room; simp; omega),yc,yo (by unfold room z219; simp; omega),yc,yl];rfl⟩
theorem qpl {α:Type} {m:Nat} (hm:0 < m) (hm2:m≤100) {x:α} {k0:List α→OA} {L:Nat→List α→OA}
 (hL:∀ (n:Nat) (l:List α),l.length+1≤room→L (n+1) l=bif Int.tmod ((l.length:Nat):Int) (m:Int) != 0 then L n (l++[x]) else k0 l) :
 ∀ (d n:Nat) (l:List α),qaJ l.length m=d→d < n→l.length+d+1≤room→L n l=k0 (l++List.replicate d x)
 | d,0,l,_,hn,_=>by omega
 | d,n+1,l,hd,hn,hr=>by
  have hlt:l.length % m < m:=Nat.mod_lt _ hm;have hdm:d < m:=by rw [← hd]; exact Nat.mod_lt _ hm
  rw [hL n l (by omega),show Int.tmod ((l.length:Nat):Int) (m:Int)=((l.length % m:Nat):Int) from rfl];unfold qaJ at hd
  by_cases h0:l.length % m=0
  ·rw [h0,Nat.sub_zero,Nat.mod_self] at hd;subst hd;rw [h0];simp
  ·rw [Nat.mod_eq_of_lt (by omega)] at hd;have h1:(((l.length % m:Nat):Int) != 0)=true:=bneT (by omega);rw [h1,yc];obtain ⟨e,rfl⟩:∃ e,d=e+1:=⟨d - 1,by omega⟩;have h2:qaJ (l++[x]).length m=e:=by
    unfold qaJ;rw [yn,List.length_singleton,Nat.add_mod]
    by_cases hm1:m=1
    ·subst hm1; omega
    ·rw [Nat.mod_eq_of_lt (show 1 < m by omega)]
     by_cases h3:l.length % m+1=m
     ·rw [h3,Nat.mod_self,Nat.sub_zero,Nat.mod_self]; omega
     ·rw [Nat.mod_eq_of_lt (show l.length % m+1 < m by omega),Nat.mod_eq_of_lt (by omega)]; omega
   rw [qpl hm hm2 hL e n (l++[x]) h2 (by omega) (by rw [yn,List.length_singleton]; omega),yl];rfl
theorem qyD {m n:Nat} (hm:0 < m):(n+qaJ n m) % m=0∧qaJ n m < m:=by
 unfold qaJ;have h:=Nat.mod_lt n hm;refine ⟨?_,Nat.mod_lt _ hm⟩
 by_cases h0:n % m=0
 ·rw [h0,Nat.sub_zero,Nat.mod_self,Nat.add_zero,h0]
 ·rw [Nat.mod_eq_of_lt (show m - n % m < m by omega),Nat.add_mod,Nat.mod_eq_of_lt (show m - n % m < m by omega),show n % m+(m - n % m)=m by omega,Nat.mod_self]
theorem qpm:∀ s:LU,(z190 s).length=8*s.length
 | []=>rfl
 | c :: r=>by
  have h:=qpm r;unfold z190 at h ⊢;rw [List.flatMap_cons,yn,h];simp only [qcP,yg,List.length_nil];omega
theorem qrt:∀ (n:Nat) (l:LI),(sixes n l).length=n
 | 0,_=>rfl
 | n+1,l=>by
  unfold sixes;rw [yg,qrt n]
theorem qyE (s:LU):(z138 s).length=(8*s.length+qaJ (8*s.length) 6) / 6:=by
 unfold z138;rw [qrt];unfold padTo;rw [yn,yQ,qpm]
theorem and63 (n:Int):bits .and .i64 n 63=n % 64:=by
 have h:(BitVec.ofInt 64 n &&& BitVec.ofInt 64 63).toNat=(n % 64).toNat:=by
  rw [BitVec.toNat_and];have h1:(BitVec.ofInt 64 63).toNat=2 ^ 6 - 1:=by decide
  rw [h1,Nat.and_two_pow_sub_one_eq_mod,BitVec.toNat_ofInt];omega
 show IntKind.wrap .i64 (((BitVec.ofInt 64 n &&& BitVec.ofInt 64 63).toNat:Nat):Int)=_;rw [h,IntWalk.i64_in _ (by omega)];omega
theorem qOw (a b k:Nat) (hb:b < 2 ^ k) (h:a*2 ^ k+b < 9223372036854775808):bits .or .i64 ((a*2 ^ k:Nat):Int) (b:Int)=((a*2 ^ k+b:Nat):Int):=by
 have h1:(BitVec.ofInt 64 ((a*2 ^ k:Nat):Int)).toNat=a*2 ^ k:=by rw [BitVec.toNat_ofInt]; omega
 have h2:(BitVec.ofInt 64 ((b:Nat):Int)).toNat=b:=by rw [BitVec.toNat_ofInt]; omega
 have h3:(BitVec.ofInt 64 ((a*2 ^ k:Nat):Int) ||| BitVec.ofInt 64 (b:Int)).toNat=a*2 ^ k+b:=by
  rw [BitVec.toNat_or,h1,h2];have:=Nat.shiftLeft_add_eq_or_of_lt hb a;rw [Nat.shiftLeft_eq] at this;exact this.symm
 show IntKind.wrap .i64 (((BitVec.ofInt 64 ((a*2 ^ k:Nat):Int) ||| BitVec.ofInt 64 (b:Int)).toNat:Nat):Int)=_;rw [h3,IntWalk.i64_in _ (by omega)]
theorem qyF (n k:Nat) (hn:n < 9223372036854775808) (hk:2 ^ k≤4611686018427387904):bits .and .i64 (n:Int) ((2 ^ k - 1:Nat):Int)=((n % 2 ^ k:Nat):Int):=by
 have hpos:0 < 2 ^ k:=Nat.pow_pos (by decide);have h1:(BitVec.ofInt 64 (n:Int)).toNat=n:=by rw [BitVec.toNat_ofInt]; omega
 have h2:(BitVec.ofInt 64 ((2 ^ k - 1:Nat):Int)).toNat=2 ^ k - 1:=by rw [BitVec.toNat_ofInt]; omega
 have h3:(BitVec.ofInt 64 (n:Int) &&& BitVec.ofInt 64 ((2 ^ k - 1:Nat):Int)).toNat=n % 2 ^ k:=by
  rw [BitVec.toNat_and,h1,h2,Nat.and_two_pow_sub_one_eq_mod]
 have h4:n % 2 ^ k < 2 ^ k:=Nat.mod_lt _ hpos;show IntKind.wrap .i64 (((BitVec.ofInt 64 (n:Int) &&& BitVec.ofInt 64 ((2 ^ k - 1:Nat):Int)).toNat:Nat):Int)=_;rw [h3,IntWalk.i64_in _ (by omega)]
theorem fdivN (n k:Nat):Int.fdiv (n:Int) ((k:Nat):Int)=((n / k:Nat):Int):=by
 rw [Int.fdiv_eq_ediv_of_nonneg _ (Int.natCast_nonneg k),Int.natCast_ediv]
theorem held8 (h x:Nat) (hh:h < 16) (hx:x < 256):bits .or .i64 (IntKind.wrap .i64 ((h:Int)*2 ^ (min (Int.toNat (8:Int)) (IntKind.bits .i64)))) (IntKind.wrap .i64 (x:Int))=((h*256+x:Nat):Int):=by
 have e:IntKind.wrap .i64 ((h:Int)*2 ^ (min (Int.toNat (8:Int)) (IntKind.bits .i64)))=((h*2 ^ 8:Nat):Int):=by
  show IntKind.wrap .i64 ((h:Int)*256)=_;rw [IntWalk.i64_in _ (by omega)]; omega
 rw [e,IntWalk.i64_in _ (by omega),qOw h x 8 (by omega) (by omega)]
theorem qGx (m h x:Nat):(encD m h x).length≤2:=by
 unfold encD;cases m==4
 ·exact Nat.le_succ 1
 ·exact yv 2
theorem qCv:∀ (c0:Int),∃ n,qxS n c0=qoV (z211 c0):=fun c=>⟨0,by
 unfold qxS z211;cases decide ((55296:Int)≤c) <;> rfl⟩
theorem qCw:∀ (c0:Int),∃ n,qxT n c0=qoW (z161 c0):=fun c=>⟨0,by
 unfold qxT z161;cases decide (IntKind.wrap .u32 c≤1114111) <;> rfl⟩
theorem qCx:∀ (c0:Int),∃ n,qDV n c0=qxW (z224 c0):=fun _=>⟨0,rfl⟩
theorem qCy:∀ (s0:LI) (v1:Int),(qqc s0 v1=true)→∃ n,qrb n s0 v1=qii (z186 s0 v1):=fun t v h=>⟨t.length+1,by
 have hl:=qm (l:=t) h;unfold qrb z186;refine qiM (qdC (L:=fun n i=>qij qii (qeK (t.length+1)) n t v ((t.length:Nat):Int) i) hl (fun n i hi=>?_) (fun n=>?_) t.length 0 (t.length+1) (by omega) (by omega)) rfl
 ·show qdr _ _ _ n _ _ _ _=_;unfold qdr;simp (disch:=omega) only [dT,yc,yi,tn,qn];cases (v==t.getD i 0) <;> rfl
 ·show qdr _ _ _ n _ _ _ _=_;unfold qdr;rw [dF (by omega)];rfl⟩
theorem qCz:∀ (t:LI),(qqh t=true)→∃ n,qre n t=qip (z128 t):=fun t h=>⟨t.length+1,by
 have hl:=qm (l:=t) h;unfold qre z128;refine qiM (qdC (L:=fun n i=>qiq qip (qeN (t.length+1)) n t ((t.length:Nat):Int) i) hl (fun n i hi=>?_) (fun n=>?_) t.length 0 (t.length+1) (by omega) (by omega)) rfl
 ·show qdu _ _ _ n _ _ _=_;unfold qdu;simp (disch:=omega) only [dT,yc,yi,tn,qn];cases z160 (t.getD i 0) <;> rfl
 ·show qdu _ _ _ n _ _ _=_;unfold qdu;rw [dF (by omega)];rfl⟩
theorem qCA:∀ (t:LI),(qqi t=true)→∃ n,qrf n t=qir (z130 t):=fun t h=>⟨t.length+1,by
 have hl:=qm (l:=t) h;unfold qrf z130;refine qiM (qdC (L:=fun n i=>qis qir (qeO (t.length+1)) n t ((t.length:Nat):Int) i) hl (fun n i hi=>?_) (fun n=>?_) t.length 0 (t.length+1) (by omega) (by omega)) rfl
 ·show qdv _ _ _ n _ _ _=_;unfold qdv;simp (disch:=omega) only [dT,yc,yi,tn,qn];cases z158 (t.getD i 0) <;> rfl
 ·show qdv _ _ _ n _ _ _=_;unfold qdv;rw [dF (by omega)];rfl⟩
theorem qCB:∀ (cs:Int) (t:LI),(qqj cs t=true)→∃ n,qrc n cs t=qik (z124 cs t):=fun cs t h=>⟨t.length+1,by
 have hl:=qm (l:=t) h;unfold qrc z124;refine qiM (qdC (L:=fun n i=>qil qik (qeL (t.length+1)) n cs t ((t.length:Nat):Int) i) hl (fun n i hi=>?_) (fun n=>?_) t.length 0 (t.length+1) (by omega) (by omega)) rfl
 ·show qds _ _ _ n _ _ _ _=_;unfold qds;simp (disch:=omega) only [dT,yc,yi,tn,qn];cases z105 cs (t.getD i 0) <;> rfl
 ·show qds _ _ _ n _ _ _ _=_;unfold qds;rw [dF (by omega)];rfl⟩
theorem qCC:∀ (t0:LI),(qqe t0=true)→∃ n,qxY n t0=qxX (z183 t0):=fun t h=>⟨0,by
 unfold qxY;rw [show qqd t=true from h];rfl⟩
theorem qCD:∀ (t0:LI),(qqf t0=true)→∃ n,qya n t0=qxZ (z125 t0):=fun t h=>⟨0,by
 unfold qya;rw [show qqe t=true from h];rfl⟩
theorem qCE:∀ (c0:Int),∃ n,qyb n c0=qfF (z184 c0):=fun c=>⟨0,by
 unfold qyb z184;cases z161 c <;> cases decide (c < (128:Int)) <;> cases decide (c < (2048:Int)) <;> cases decide (c < (65536:Int)) <;> rfl⟩
theorem qCF:∀ (b0:LU) (c1:Int),(qqg b0 c1=true)→∃ n,qyc n b0 c1=qfG (z126 b0 c1).1 (z126 b0 c1).2:=fun b c h=>⟨0,by
 have hl:=qm (l:=b) h;unfold qyc qae qbG qdc qbF qio z126;rw [show qdM b=true from h,show z153 b=b from rfl];have hr:∀ (l m:LU),l.length≤1048580→m.length≤10→decide (l.length+m.length≤room)=true:=fun l m h1 h2=>dT (by unfold room; omega);rcases qnj c with e | e | e | e | e <;> rw [e]
 ·rfl
 ·rw [hr b _ (by omega) (by simp)]; rfl
 ·simp only [show ((2:Int)==0)=false from rfl,show ((2:Int)==4)=false from rfl,show ((2:Int)==3)=false from rfl,show ((2:Int)==2)=true from rfl,yd,yc];rw [hr b _ (by omega) (by simp),hr (b++_) _ (by simp; omega) (by simp)];simp only [yl]; rfl
 ·simp only [show ((3:Int)==0)=false from rfl,show ((3:Int)==4)=false from rfl,show ((3:Int)==3)=true from rfl,yd,yc];rw [hr b _ (by omega) (by simp),hr (b++_) _ (by simp; omega) (by simp),hr (b++_++_) _ (by simp; omega) (by simp)];simp only [yl]; rfl
 ·simp only [show ((4:Int)==0)=false from rfl,show ((4:Int)==4)=true from rfl,yd,yc];rw [hr b _ (by omega) (by simp),hr (b++_) _ (by simp; omega) (by simp),hr (b++_++_) _ (by simp; omega) (by simp),hr (b++_++_++_) _ (by simp; omega) (by simp)];simp only [yl]; rfl⟩
theorem qyG {β:Type} (ret:UInt8→Bool→β) (b:Bool) (x y:UInt8×Bool):ret (bif b then x else y).1 (bif b then x else y).2=bif b then ret x.1 x.2 else ret y.1 y.2:=by cases b <;> rfl
theorem qCG:∀ (c0:Int),∃ n,qxO n c0=qda (z127 c0).1 (z127 c0).2:=fun c=>⟨9,by
 unfold z127;simp only [qyG];rw [show (bif decide (c < 0)||decide (256≤c) then qda (0,false).1 (0,false).2 else qda (oct8 c,true).1 (oct8 c,true).2)=qdq 9 c from by
  unfold qdq;cases decide (c < (0:Int)) <;> cases decide ((256:Int)≤c) <;> rfl]
 rfl⟩
theorem qCH:∀ (c0:Int),∃ n,qDT n c0=qxP (z159 c0):=fun _=>⟨0,rfl⟩
theorem qCI:∀ (c0:Int),∃ n,qxQ n c0=qV (z129 c0).1 (z129 c0).2:=fun c=>⟨0,by
 unfold qxQ qci qch qcg z129;rw [show qqc z177 c=true from by show lenOk z177=true; decide];have h1:decide (0≤c)=false→decide (c < 256)=true:=by simp; omega
 have h2:decide (c < 128)=true→decide (c < 256)=true:=by simp; omega
 have h3:decide (160≤c)=true→decide (0≤c)=true:=by simp; omega
 have h4:decide (160≤c)=true→decide (c < 128)=false:=by simp; omega
 have h5:decide (160≤c)=false→decide (c < 256)=true:=by simp; omega
 simp only [qyG];revert h1 h2 h3 h4 h5;cases decide ((0:Int)≤c) <;> cases decide (c < (128:Int)) <;> cases decide ((160:Int)≤c) <;> cases decide (c < (256:Int)) <;> cases decide (z186 z177 c < (0:Int)) <;> intro h1 h2 h3 h4 h5 <;> first | rfl | (exfalso; revert h1 h2 h3 h4 h5; decide)⟩
theorem qCJ:∀ (c0:Int),∃ n,qDU n c0=qxR (z160 c0):=fun _=>⟨0,rfl⟩
theorem qCK:∀ (c0:Int),∃ n,qDS n c0=qxN (z158 c0):=fun _=>⟨0,rfl⟩
theorem qyH (k0:LU→OA) (t:LI) (hl:t.length≤1048576):∀ (d i n:Nat),i+d=t.length→d < n →
 qlg k0 n ((t.take i).map (fun c=>UInt8.ofNat (Int.toNat (IntKind.wrap .u8 c)))++List.replicate (t.length - i) 0) t (t.length:Nat) (i:Nat)=k0 (t.map fun c=>UInt8.ofNat (Int.toNat (IntKind.wrap .u8 c)))
 | d,i,0,hi,hn=>by omega
 | 0,i,n+1,hi,hn=>by
  show qfN k0 (qlg k0 n) n _ t _ _=_;unfold qfN;obtain rfl:i=t.length:=by omega
  rw [yx (by omega),yd,List.take_length,Nat.sub_self];simp
 | d+1,i,n+1,hi,hn=>by
  show qfN k0 (qlg k0 n) n _ t _ _=_;unfold qfN;have hlt:i < t.length:=by omega
  have hl2:((t.take i).map (fun c=>UInt8.ofNat (Int.toNat (IntKind.wrap .u8 c)))++List.replicate (t.length - i) (0:UInt8)).length=t.length:=by simp; omega
  have ih:=qyH k0 t hl d (i+1) n (by omega) (by omega);rw [qnB,yo hlt,yc,qaV,y5,yc,y5,qnB,hl2,yo hlt,yc,qn (by omega),qbM,
   qGl (fun c=>UInt8.ofNat (Int.toNat (IntKind.wrap .u8 c))) t 0 i hlt 0]
  exact ih
theorem qGy:∀ (t0:LI),(qzI t0=true)→∃ n,qBK n t0=qyf (z70 t0).1 (z70 t0).2:=fun t h=>⟨t.length+1,by
 have hl:=qm h;unfold qBK z70;rw [show qqi t=true from h,yi,yc];cases z130 t != -1 with
 | true=>rfl
 | false =>
  have:=qyH (qfO (t.length+1)) t hl t.length 0 (t.length+1) (by omega) (by omega);rw [yd,yd,qaV,yo (Int.le_refl _),yo (by unfold room; omega)];unfold qfO at this ⊢;simpa using this⟩
theorem qCL:∀ (charset0:Int) (c1:Int),∃ n,qxU n charset0 c1=qdb (z105 charset0 c1):=fun cs c=>⟨0,by
 unfold qxU z105;cases (cs==(1:Int)) <;> cases (cs==(2:Int)) <;> cases (cs==(3:Int)) <;> cases (cs==(4:Int)) <;> cases (cs==(5:Int)) <;> cases decide ((0:Int)≤c) <;> rfl⟩
theorem qGz:∀ (charset0:Int),∃ n,qFQ n charset0=qdN (z65 charset0):=fun cs=>⟨0,by
 unfold qFQ z65
 by_cases h:cs=2
 ·subst h; rfl
 ·rw [beqF h];cases (cs==(1:Int)) <;> cases (cs==(3:Int)) <;> cases (cs==(4:Int)) <;> cases (cs==(5:Int)) <;> rfl⟩
theorem qGA:∀ (charset0:Int) (t1:LI),(qzM charset0 t1=true)→∃ n,qFR n charset0 t1=qxV (z66 charset0 t1):=fun cs t h=>⟨0,by
 unfold qFR z66;rw [show qqj cs t=true from h];cases decide (0 < z65 cs) <;> rfl⟩
theorem qGB:∀ (t0:LI),(qzJ t0=true)→∃ n,qBI n t0=qjm (z68 t0).1 (z68 t0).2:=fun t h=>⟨t.length+1,by
 have hl:=qm (l:=t) h;unfold qBI z68;have:=qiL (t:=t) (dv:=0) (f:=fun c=>[(z127 c).1]) (q:=z159) (b:=1) (k0:=qfK (t.length+1)) (R:=qjm [] 9)
  (L:=fun n out i=>qoY qjm (qfK (t.length+1)) n out t ((t.length:Nat):Int) i) (fun x=>by simp) (fun n i out hi hb=>by
   show qfJ _ _ _ n _ _ _ _=_;unfold qfJ;simp (disch:=omega) only [dT,yc,yi,tn,qn,yg,List.length_nil,yE];show (bif !(z159 (t.getD i 0)) then _ else _)=_;cases z159 (t.getD i 0) <;> rfl) (fun n out=>by
   show qfJ _ _ _ n _ _ _ _=_;unfold qfJ;rw [dF (by omega)];rfl) t.length 0 (t.length+1) [] (by omega) (by omega) (by unfold room; simp; omega)
 refine this.trans ?_;rw [yw,qaT];cases t.all z159 <;> rfl⟩
theorem qGC:∀ (t0:LI),(qzK t0=true)→∃ n,qBJ n t0=qye (z69 t0).1 (z69 t0).2:=fun t h=>⟨t.length+1,by
 have hl:=qm (l:=t) h;unfold qBJ z69;rw [show qqh t=true from h];cases decide (0≤z128 t) with
 | true=>rfl
 | false =>
  have:=qiL (t:=t) (dv:=0) (f:=fun c=>[(z129 c).1]) (q:=fun _=>true) (b:=1) (k0:=qfM (t.length+1)) (R:=none)
   (L:=fun n out i=>qoZ (qfM (t.length+1)) n out t ((t.length:Nat):Int) i) (fun x=>by simp) (fun n i out hi hb=>by
    show qfL _ _ n _ _ _ _=_;unfold qfL;simp (disch:=omega) only [dT,yc,yi,tn,qn,yg,List.length_nil,yE]) (fun n out=>by
    show qfL _ _ n _ _ _ _=_;unfold qfL;rw [dF (by omega)];rfl) t.length 0 (t.length+1) [] (by omega) (by omega) (by unfold room; simp; omega)
  simp (disch:=(first | omega | (unfold room; omega))) only [dT,yc,yd,yi];refine this.trans ?_;rw [yw,qaT,List.all_eq_true.2 (fun _ _=>rfl)];rfl⟩
theorem qGD:∀ (t0:LI),(qzL t0=true)→∃ n,qBH n t0=qyd (z67 t0).1 (z67 t0).2:=fun t h=>⟨t.length+1,by
 have hl:=qm (l:=t) h;unfold qBH z67;rw [show qqf t=true from h];cases !(z125 t) with
 | true=>rfl
 | false =>
  have:=qiL (t:=t) (dv:=0) (f:=fun c=>(z126 [] c).1) (q:=fun _=>true) (b:=4) (k0:=qfI (t.length+1)) (R:=none)
   (L:=fun n out i=>qoX (qfI (t.length+1)) n out t ((t.length:Nat):Int) i) qyy (fun n i out hi hb=>by
    show qfH _ _ n _ _ _ _=_;unfold qfH;have hp:=qyy (t.getD i 0);rw [show qqg ([]:LU) (t.getD (Int.toNat (i:Int)) 0)=true from rfl];simp (disch:=omega) only [dT,yc,yi,tn,qn]) (fun n out=>by
    show qfH _ _ n _ _ _ _=_;unfold qfH;rw [dF (by omega)];rfl) t.length 0 (t.length+1) [] (by omega) (by omega) (by unfold room; simp; omega)
  simp only [yc,yd,yi];refine this.trans ?_;rw [yw,List.all_eq_true.2 (fun _ _=>rfl)];rfl⟩
theorem qGE:∀ (charset0:Int) (t1:LI),(qsh charset0 t1=true)→∃ n,qFS n charset0 t1=qit (z31 charset0 t1).1 (z31 charset0 t1).2:=fun cs t h=>⟨0,by
 unfold qFS z31;rw [show qzM cs t=true from h,show qzL t=true from h,show qzJ t=true from h,show qzK t=true from h,show qzI t=true from h];cases (z65 cs==0) <;> cases z66 cs t <;> cases (cs==(5:Int)) <;> cases (cs==(3:Int)) <;> cases (cs==(4:Int)) <;> rfl⟩
theorem qCM:∀ (n0:Int),∃ n,qyr n n0=qed (z191 n0):=fun n=>⟨0,by
 unfold qyr qaY z191;generalize Int.tmod (IntKind.wrap .i64 (Int.tmod n 64+64)) 64=k;show _=qed (bif decide (k < 26) then _ else _);cases decide (k < 26) <;> cases decide (k < 52) <;> cases decide (k < 62) <;> cases (k==62) <;> rfl⟩
theorem qjp (k0:Int→OA) (l:LI) (hl:l.length≤1048576):∀ (d i n:Nat) (m:Int),i+d=l.length→d < n →
 qiC k0 n l m (i:Nat)=k0 ((l.drop i).foldl (fun n b=>IntKind.wrap .i64 (IntKind.wrap .i64 (2*n)+b)) m)
 | d,i,0,m,hi,hn=>by omega
 | 0,i,n+1,m,hi,hn=>by
  show qdx _ _ n _ _ _=_;unfold qdx;rw [dF (by omega),yd,yA (by omega)];rfl
 | d+1,i,n+1,m,hi,hn=>by
  show qdx _ _ n _ _ _=_;unfold qdx;have hlt:i < l.length:=by omega
  rw [qA (d:=(0:Int)) hlt];simp (disch:=omega) only [dT,yc,yi,tn,qn];rw [qjp k0 l hl d (i+1) n _ (by omega) (by omega)];rfl
theorem qCN:∀ (l0:LI),(qjg l0=true)→∃ n,qrl n l0=qyp (z151 l0):=fun l h=>⟨l.length+1,by
 unfold qjg at h;have hl:l.length≤1048576:=by simpa using h
 unfold qrl z151;refine (qjp (qeW (l.length+1)) l hl l.length 0 (l.length+1) 0 (by omega) (by omega)).trans ?_;rw [yw];rfl⟩
theorem qyI (k2:LU→LI→Int→OA) (s:LU) (i:Nat) (hi:i < s.length) (n:Nat) (hn:8 < n) (out:LI) (hb:out.length+8≤room) :
 qeX k2 n s out (i:Nat) 7=k2 s (out++qcP (s.getD i 0)) (i:Nat):=by
 obtain ⟨m,rfl⟩:∃ m,n=m+9:=⟨n - 9,by omega⟩;have step:∀ (n k:Nat) (out:LI),k≤7→out.length+1≤room→qeX k2 (n+1) s out (i:Nat) ((k:Nat):Int)=qeX k2 n s (out++[bit8 (s.getD i 0) k]) (i:Nat) ((k:Int) - 1):=fun n k out hk hr=>by
  show qdy _ _ n _ _ _ _=_;unfold qdy qct bit8;simp (disch:=(first | omega | (simp; omega))) only [dT,yc,yi,tn];rw [IntWalk.i64_in ((k:Int) - 1) (by omega)]
 rw [show (7:Int)=((7:Nat):Int) from rfl,step _ 7 _ (by omega) (by omega),show (((7:Nat):Int) - 1)=((6:Nat):Int) from rfl,
  step _ 6 _ (by omega) (by simp; omega),show (((6:Nat):Int) - 1)=((5:Nat):Int) from rfl,step _ 5 _ (by omega) (by simp; omega),show (((5:Nat):Int) - 1)=((4:Nat):Int) from rfl,
  step _ 4 _ (by omega) (by simp; omega),show (((4:Nat):Int) - 1)=((3:Nat):Int) from rfl,step _ 3 _ (by omega) (by simp; omega),show (((3:Nat):Int) - 1)=((2:Nat):Int) from rfl,
  step _ 2 _ (by omega) (by simp; omega),show (((2:Nat):Int) - 1)=((1:Nat):Int) from rfl,step _ 1 _ (by omega) (by simp; omega),show (((1:Nat):Int) - 1)=((0:Nat):Int) from rfl,
  step _ 0 _ (by omega) (by simp; omega)]
 show qdy _ _ m _ _ _ _=_;unfold qdy qct;rw [show decide ((0:Int)≤((0:Nat):Int) - 1)=false from rfl,yd];simp only [yl];rfl
theorem qru (k0:LI→OA) (s:LU) (hl:s.length≤4194304):∀ (d i n:Nat) (out:LI),i+d=s.length→d+9 < n→out.length+8*d≤room →
 qiD k0 n s out (i:Nat)=k0 (out++(s.drop i).flatMap qcP)
 | d,i,0,out,hi,hn,_=>by omega
 | 0,i,n+1,out,hi,hn,_=>by
  show qcu _ _ n _ _ _=_;unfold qcu;rw [dF (by omega),yd,yA (by omega)];simp
 | d+1,i,n+1,out,hi,hn,hb=>by
  show qcu _ _ n _ _ _=_;unfold qcu;have hlt:i < s.length:=by omega
  rw [dT (by omega),yc,qyI _ s i hlt n (by omega) out (by omega)];unfold qeY;rw [qn (by omega),qru k0 s hl d (i+1) n _ (by omega) (by omega) (by rw [yn]; simp [qcP]; omega),qA (d:=(0:UInt8)) hlt,List.flatMap_cons,yl]
theorem qCO:∀ (s0:LU),(qmj s0=true)→∃ n,qrm n s0=qyq (z190 s0):=fun s h=>⟨s.length+10,by
 unfold qmj at h;have hl:s.length≤4194304:=by simpa using h
 unfold qrm z190;refine (qru (qeZ (s.length+10)) s hl s.length 0 (s.length+10) [] (by omega) (by omega) (by unfold room; simp; omega)).trans ?_;rw [yw];rfl⟩
theorem qrv (k2:LU→OA) (l:LI) (k:Nat) (hk:l.length=6*k) (hl:l.length≤100000000):∀ (d i n:Nat) (out:LU),i+d=k→d < n→out.length+d≤room →
 qiF k2 n l out ((6*i:Nat):Int)=k2 (out++sixes d (l.drop (6*i)))
 | d,i,0,out,hi,hn,_=>by omega
 | 0,i,n+1,out,hi,hn,_=>by
  show qdz _ _ n _ _ _=_;unfold qdz qbH;rw [dF (by omega),yd];unfold sixes;rw [yG]
 | d+1,i,n+1,out,hi,hn,hb=>by
  show qdz _ _ n _ _ _=_;unfold qdz qbH;have e6:IntKind.wrap .i64 (((6*i:Nat):Int)+6)=((6*(i+1):Nat):Int):=by rw [IntWalk.i64_in _ (by omega)]; omega
  rw [e6];have ed:List.drop (6*i) (List.take (6*(i+1)) l)=(l.drop (6*i)).take 6:=by
   rw [List.drop_take,show 6*(i+1) - 6*i=6 by omega]
  simp (disch:=(first | omega | (simp; omega))) only [dT,yc,yi,tn];rw [ed,show qjg ((l.drop (6*i)).take 6)=true from by unfold qjg; rw [dT]; rw [yz]; omega,yc,
   qrv k2 l k hk hl d (i+1) n _ (by omega) (by omega) (by simp; omega),yl]
  show _=k2 (out++(z191 (z151 ((l.drop (6*i)).take 6)) :: sixes d ((l.drop (6*i)).drop 6)));rw [List.drop_drop];rfl
theorem qCP:∀ (s0:LU),(qmk s0=true)→∃ n,qrn n s0=qys (z138 s0):=fun s h=>⟨(padTo 6 0 (z190 s)).length / 6+20,by
 have h':=h;unfold qmk at h;have hl:s.length≤4194304:=by simpa using h
 have hb:=qpm s;have hp:=qyD (m:=6) (n:=(z190 s).length) (by omega);unfold qrn z138;rw [show qmj s=true from h',y5,yc];generalize hN:(padTo 6 0 (z190 s)).length / 6+20=N;have hpl:(padTo 6 0 (z190 s)).length=(z190 s).length+qaJ (z190 s).length 6:=by unfold padTo; simp
 refine (qpl (m:=6) (x:=(0:Int)) (k0:=qbi N) (L:=fun n l=>qiE (qbi N) n l) (by omega) (by omega) (fun n l hr=>?_) _ N (z190 s) rfl (by omega) (by unfold room; omega)).trans ?_
 ·show qgV _ _ n _=_;unfold qgV;rw [dT (show l.length+([(0:Int)]:LI).length≤room by simp; omega)];rfl
 ·show qbi N (padTo 6 0 (z190 s))=_;unfold qbi;refine (qrv (qfa N) (padTo 6 0 (z190 s)) ((padTo 6 0 (z190 s)).length / 6) (by omega) (by omega) ((padTo 6 0 (z190 s)).length / 6) 0 N [] (by omega) (by omega) (by unfold room; simp; omega)).trans ?_;rfl⟩
theorem qGF:∀ (s0:LU),(qsi s0=true)→∃ n,qBQ n s0=qDZ (z74 s0):=fun s h=>⟨20,by
 have h':=h;unfold qsi at h;have hl:s.length≤4194304:=by simpa using h
 have hb:=qyE s;have hp:=qyD (m:=6) (n:=8*s.length) (by omega);have hq:=qyD (m:=4) (n:=(z138 s).length) (by omega);unfold qBQ z74;rw [show qmk s=true from h',y5,yc];refine (qpl (m:=4) (x:=(61:UInt8)) (k0:=qfY 20) (L:=fun n l=>qpc (qfY 20) n l) (by omega) (by omega) (fun n l hr=>?_) _ 20 (z138 s) rfl (by omega) (by unfold room; omega)).trans ?_
 ·show qlo _ _ n _=_;unfold qlo;rw [dT (show l.length+([(61:UInt8)]:LU).length≤room by simp; omega)];rfl
 ·rfl⟩
theorem qCQ:∀ (n0:Int),∃ n,qxM n n0=qxL (z222 n0):=fun n=>⟨0,by
 unfold qxM qie z222;rw [and63];have h0:(0:Int)≤n % 64:=by omega
 have h1:n % 64 < (((b64D.length:Nat)):Int):=by show n % 64 < ((64:Nat):Int); omega
 rw [yo h0];show (bif true&&decide (n % 64 < (((b64D.length:Nat)):Int)) then _ else _)=_;rw [yo h1];rfl⟩
theorem qLO (k2:LU→Int→Int→LU→Int→Int→OA) (n:Nat) (out:LU) (h:Nat) (s8:LU) (s9 s10:Int) (ho:out.length+1≤room) :
 qcf k2 (n+3) out (h:Int) 8 s8 s9 s10=k2 (out++[z222 ((h / 4:Nat):Int)]) (h:Int) 2 s8 s9 s10:=by
 have e:qcf k2 (n+3) out (h:Int) 8 s8 s9 s10=bif decide (out.length+1≤room) then k2 (out++[z222 (Int.fdiv (h:Int) ((4:Nat):Int))]) (h:Int) 2 s8 s9 s10 else none:=rfl
 rw [e,dT ho,yc,fdivN]
theorem qLP (k2:LU→Int→Int→LU→Int→Int→OA) (n:Nat) (out:LU) (h:Nat) (s8:LU) (s9 s10:Int) (ho:out.length+1≤room) :
 qcf k2 (n+3) out (h:Int) 10 s8 s9 s10=k2 (out++[z222 ((h / 16:Nat):Int)]) (h:Int) 4 s8 s9 s10:=by
 have e:qcf k2 (n+3) out (h:Int) 10 s8 s9 s10=bif decide (out.length+1≤room) then k2 (out++[z222 (Int.fdiv (h:Int) ((16:Nat):Int))]) (h:Int) 4 s8 s9 s10 else none:=rfl
 rw [e,dT ho,yc,fdivN]
theorem qLQ (k2:LU→Int→Int→LU→Int→Int→OA) (n:Nat) (out:LU) (h:Nat) (s8:LU) (s9 s10:Int) (ho:out.length+2≤room) :
 qcf k2 (n+3) out (h:Int) 12 s8 s9 s10=k2 (out++[z222 ((h / 64:Nat):Int),z222 (h:Int)]) (h:Int) 0 s8 s9 s10:=by
 have e:qcf k2 (n+3) out (h:Int) 12 s8 s9 s10=bif decide (out.length+1≤room) then (bif decide ((out++[z222 (Int.fdiv (h:Int) ((64:Nat):Int))]).length+1≤room) then k2 ((out++[z222 (Int.fdiv (h:Int) ((64:Nat):Int))])++[z222 (Int.fdiv (h:Int) ((1:Nat):Int))]) (h:Int) 0 s8 s9 s10 else none) else none:=rfl
 rw [e,dT (show out.length+1≤room by omega),yc,dT (by rw [yn]; exact ho),yc,fdivN,fdivN,Nat.div_one,yl]; rfl
theorem qCR (k0:LU→Int→Int→OA) (next:LU→Int→Int→LU→Int→Int→OA) (j n:Nat) (out:LU) (h m x:Nat) (s8:LU) (s9 s10:Int)
 (hm:m=0∨m=2∨m=4) (hh:h < 2 ^ m) (hx:x < 256) (ho:out.length+2≤room) :
 qcf (qbR k0 next j) (n+3) out (bits .or .i64 (IntKind.wrap .i64 ((h:Int)*2 ^ (min (Int.toNat (8:Int)) (IntKind.bits .i64)))) (IntKind.wrap .i64 (x:Int))) (IntKind.wrap .i64 ((m:Int)+8)) s8 s9 s10
  = next (out++encD m h x) (encH m h x:Nat) (encM m:Nat) s8 s9 (IntKind.wrap .i64 (s10+1)):=by
 have hh16:h < 16:=by rcases hm with rfl | rfl | rfl <;> omega
 rw [held8 h x hh16 hx];rcases hm with rfl | rfl | rfl
 ·rw [show IntKind.wrap .i64 (((0:Nat):Int)+8)=8 from rfl,qLO _ _ _ _ _ _ _ (by omega)];have e:qbR k0 next j (out++[z222 (((h*256+x) / 4:Nat):Int)]) ((h*256+x:Nat):Int) 2 s8 s9 s10=next (out++[z222 (((h*256+x) / 4:Nat):Int)]) (bits .and .i64 ((h*256+x:Nat):Int) ((2 ^ 2 - 1:Nat):Int)) 2 s8 s9 (IntKind.wrap .i64 (s10+1)):=rfl;rw [e,qyF _ 2 (by omega) (by decide)];have e2:encD 0 h x=[z222 (((h*256+x) / 4:Nat):Int)]:=rfl;have e3:encH 0 h x=(h*256+x) % 2 ^ 2:=rfl;have e4:encM 0=2:=rfl;rw [e2,e3,e4]; rfl
 ·rw [show IntKind.wrap .i64 (((2:Nat):Int)+8)=10 from rfl,qLP _ _ _ _ _ _ _ (by omega)];have e:qbR k0 next j (out++[z222 (((h*256+x) / 16:Nat):Int)]) ((h*256+x:Nat):Int) 4 s8 s9 s10=next (out++[z222 (((h*256+x) / 16:Nat):Int)]) (bits .and .i64 ((h*256+x:Nat):Int) ((2 ^ 4 - 1:Nat):Int)) 4 s8 s9 (IntKind.wrap .i64 (s10+1)):=rfl;rw [e,qyF _ 4 (by omega) (by decide)];have e2:encD 2 h x=[z222 (((h*256+x) / 16:Nat):Int)]:=rfl;have e3:encH 2 h x=(h*256+x) % 2 ^ 4:=rfl;have e4:encM 2=4:=rfl;rw [e2,e3,e4]; rfl
 ·rw [show IntKind.wrap .i64 (((4:Nat):Int)+8)=12 from rfl,qLQ _ _ _ _ _ _ _ ho];have e0:qbR k0 next j (out++[z222 (((h*256+x) / 64:Nat):Int),z222 ((h*256+x:Nat):Int)]) ((h*256+x:Nat):Int) 0 s8 s9 s10=next (out++[z222 (((h*256+x) / 64:Nat):Int),z222 ((h*256+x:Nat):Int)]) (bits .and .i64 ((h*256+x:Nat):Int) ((2 ^ 0 - 1:Nat):Int)) 0 s8 s9 (IntKind.wrap .i64 (s10+1)):=rfl;rw [e0,qyF _ 0 (by omega) (by decide)];have e3:encH 4 h x=(h*256+x) % 2 ^ 0:=rfl;have e4:encM 4=0:=rfl;have e:encD 4 h x=[z222 (((h*256+x) / 64:Nat):Int),z222 ((h*256+x:Nat):Int)]:=by
   show [z222 (((h*256+x:Nat):Int) / 64),_]=_;rw [Int.natCast_ediv]; rfl
  rw [e,e3,e4]; rfl
theorem qGG (m:Nat) (s out:LU) (mm h:Nat) (e:EncSt s out mm h) (ho:out.length+1≤room):qcs m out (h:Int) (mm:Int)=qif (z138 s):=by
 have hc:=e.cases;have hl:=e.lt;unfold qcs;rcases hc with rfl | rfl | rfl
 ·rw [dF (by omega),yd,e.bare_nil]
 ·rw [e.bare_some (by decide),dT (by omega),yc];have e1:IntKind.wrap .i64 ((h:Int)*2 ^ (min (Int.toNat (IntKind.wrap .i64 ((6:Int) - ((2:Nat):Int)))) (IntKind.bits .i64)))=((h*2 ^ (6 - 2):Nat):Int):=by
   show IntKind.wrap .i64 ((h:Int)*16)=_;rw [IntWalk.i64_in _ (by omega)]; omega
  rw [e1,dT (show (0:Int)≤IntKind.wrap .i64 ((6:Int) - ((2:Nat):Int)) from by decide),yc,dT (show out.length+[_].length≤room from ho),yc]
 ·rw [e.bare_some (by decide),dT (by omega),yc];have e1:IntKind.wrap .i64 ((h:Int)*2 ^ (min (Int.toNat (IntKind.wrap .i64 ((6:Int) - ((4:Nat):Int)))) (IntKind.bits .i64)))=((h*2 ^ (6 - 4):Nat):Int):=by
   show IntKind.wrap .i64 ((h:Int)*4)=_;rw [IntWalk.i64_in _ (by omega)]; omega
  rw [e1,dT (show (0:Int)≤IntKind.wrap .i64 ((6:Int) - ((4:Nat):Int)) from by decide),yc,dT (show out.length+[_].length≤room from ho),yc]
theorem qnn (j:Nat) (s:LU) (hl:s.length≤1048576):∀ (d i n:Nat) (out:LU) (h m:Nat),i+d=s.length→d+3 < n→EncSt (s.take i) out m h→out.length≤2*i →
 qig (qcs j) n out (h:Int) (m:Int) s (s.length:Nat) (i:Nat)=qif (z138 s)
 | d,i,0,out,h,m,hi,hn,_,_=>by omega
 | 0,i,n+1,out,h,m,hi,hn,e,ho=>by
  obtain rfl:i=s.length:=by omega
  show qcr _ _ n _ _ _ _ _ _=_;unfold qcr;rw [dF (by omega),yd];rw [List.take_length] at e;exact qGG j s out m h e (by unfold room; omega)
 | d+1,i,n+1,out,h,m,hi,hn,e,ho=>by
  show qcr _ _ n _ _ _ _ _ _=_;unfold qcr;have hlt:i < s.length:=by omega
  have hx:=(s.getD i 0).toNat_lt;simp (disch:=omega) only [dT,yc,yi,tn];obtain ⟨n',rfl⟩:∃ n',n=n'+3:=⟨n - 3,by omega⟩;rw [qCR _ _ _ n' out h m _ s _ _ e.cases e.lt hx (by unfold room; omega),qn (by omega)];have e2:=e.step (s.getD i 0);have ht:s.take i++[s.getD i 0]=s.take (i+1):=by
   rw [List.take_succ_eq_append_getElem hlt,yY,yO hlt]; rfl
  rw [ht] at e2;have hd:=qGx m h (s.getD i 0).toNat;exact qnn j s hl d (i+1) (n'+3) _ _ _ (by omega) (by omega) e2 (by rw [yn]; omega)
theorem qCS:∀ (s0:LU),(qDt s0=true)→∃ n,qqZ n s0=qif (z182 s0):=fun s h=>⟨s.length+5,by
 have hl:=qm h;unfold qqZ;exact qnn (s.length+5) s hl s.length 0 (s.length+5) [] 0 0 (by omega) (by omega) EncSt.nil (by simp)⟩
theorem qCT:∀ (t:LI),(qqd t=true)→∃ n,qrd n t=qim (z223 t):=fun t h=>⟨t.length+1,by
 have hl:=qm (l:=t) h;unfold qrd z223;refine qiM (qdC (L:=fun n i=>qin qim (qeM (t.length+1)) n t ((t.length:Nat):Int) i) hl (fun n i hi=>?_) (fun n=>?_) t.length 0 (t.length+1) (by omega) (by omega)) rfl
 ·show qdt _ _ _ n _ _ _=_;unfold qdt;simp (disch:=omega) only [dT,yc,yi,tn,qn];unfold z224;cases z161 (t.getD i 0) <;> rfl
 ·show qdt _ _ _ n _ _ _=_;unfold qdt;rw [dF (by omega)];rfl⟩
end
end Go.Av
