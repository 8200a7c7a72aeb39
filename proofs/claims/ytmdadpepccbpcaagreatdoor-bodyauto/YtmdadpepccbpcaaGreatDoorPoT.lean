import Derived.Test.YtmdadpepccbpcaaGreatDoorPoSh
import Derived.Test.YtmdadpepccbpcaaGreatDoorPoB
import Derived.Test.YtmdadpepccbpcaaGreatDoorAvE
import Derived.Lib.IndexAny
import Derived.Lib.IndexMore
import Derived.Lib.IndexBytes
import Derived.IntWalk
import Derived.KernelRfl
namespace Go.Av
set_option linter.unusedSimpArgs false
set_option linter.unusedVariables false
section
open List (getD length drop take replicate)
open Int (toNat tmod tdiv)
open UInt8 (ofNat)
open IntKind (wrap)
variable {i:Nat} {x a b c cs:Int} {t:LI}
theorem qnc {α:Type} [DecidableEq α] {a b:List α} (ha:i < a.length) (hb:i < b.length) (d:α):decide (a.drop i=b.drop i)=bif a.getD i d != b.getD i d then false else decide (a.drop (i+1)=b.drop (i+1)):=by
 rw[qr (d:=d) ha,qr (d:=d) hb];generalize a.getD i d=x;generalize b.getD i d=y
 by_cases h:x=y
 ·subst h;simp
 ·simp[h]
theorem qCK (ret:Bool→OA) (a b:LU) (hab:a.length=b.length) (hl:a.length≤1048576):∀ (d i n:Nat),i+d=a.length→d < n →
 qpm ret (ret true) n a b (i:Nat)=ret (decide (a.drop i=b.drop i))
 | d,i,0,hi,hn=>by omega
 | 0,i,n+1,hi,hn=>by
  show qhg ret (ret true) (qpm ret (ret true) n) n a b _=_;unfold qhg;rw[yx (by omega),yd,yA (by omega),yA (by omega)];rfl
 | d+1,i,n+1,hi,hn=>by
  show qhg ret (ret true) (qpm ret (ret true) n) n a b _=_;unfold qhg;have hlt:i < a.length:=by omega
  have hlt':i < b.length:=by omega
  have ih:=qCK ret a b hab hl d (i+1) n (by omega) (by omega);rw[qgf,yo hlt,yc,qK,y6,yc,y6,qgf,yo hlt',yc,qd (by omega),qab,ih,qnc hlt hlt' 0];cases (a.getD i 0 != b.getD i 0) <;> rfl
theorem qPs:∀ (a0:LU) (b1:LU),(qFb a0 b1=true)→∃ n,qIi n a0 b1=qBy (z10 a0 b1):=fun a b h=>⟨a.length+1,by
 unfold qIi z10
 by_cases hab:a.length=b.length
 ·rw[show (((a.length:Nat):Int) != ((b.length:Nat):Int))=false by simp[hab],yd];exact qCK qBy a b hab (qb h) a.length 0 (a.length+1) (by omega) (by omega)
 ·rw[show (((a.length:Nat):Int) != ((b.length:Nat):Int))=true by simp only[bne_iff_ne,ne_eq];omega,yc,yx (fun e=>hab (by rw[e]))]⟩
theorem qpn (c:UInt8):decide (((UInt8.toNat c:Nat):Int) < (256:Nat))=true:=by
 have:=c.toNat_lt;rw[yo];omega
theorem qIj:∀ (c0:UInt8),∃ n,qKY n c0=qKR (z228 c0):=fun c=>⟨0,by
 unfold qKY qdG qS z228 qtu orI;cases decide (c < (32:UInt8)) <;> cases (c==(127:UInt8)) <;> cases (c==(32:UInt8)) <;> cases (c==(9:UInt8)) <;> cases decide ((48:UInt8)≤c) <;> cases decide (c≤(57:UInt8)) <;> cases decide ((65:UInt8)≤c) <;> cases decide (c≤(90:UInt8)) <;> cases decide ((97:UInt8)≤c) <;> cases decide (c≤(122:UInt8)) <;> rfl⟩
theorem qIk:∀ (s0:LU) (c1:UInt8),∃ n,qUD n s0 c1=qKR (z236 s0 c1):=fun _ _=>⟨0,rfl⟩
theorem qIl:∀ (s0:LU) (c1:UInt8),∃ n,qUE n s0 c1=qKR (z216 s0 c1):=fun _ _=>⟨0,rfl⟩
theorem qIm:∀ (s0:LU) (c1:UInt8),∃ n,qUF n s0 c1=qBy (z229 s0 c1):=fun _ _=>⟨0,rfl⟩
theorem qIn:∀ (c0:UInt8),∃ n,qKZ n c0=qKR (z198 c0):=fun c=>⟨0,by
 unfold qKZ qbU qdH qbp z198 qFc orI;cases decide (c < (33:UInt8)) <;> cases decide ((126:UInt8) < c) <;> cases z229 [33,42,43,45,47] c <;> cases z229 [43,47] c <;> cases z229 [40,41,60,62,64,44,59,58,92,34,47,91,93,63,61] c <;> cases z229 [42,39,37] c <;> rfl⟩
theorem qIo:∀ (c0:UInt8) (kinds1:Int),∃ n,qUG n c0 kinds1=qBy (z144 c0 kinds1):=fun _ _=>⟨0,rfl⟩
theorem qhF (c:UInt8):c.toNat < 256:=c.toNat_lt
theorem qCL (cs:LU) (x:UInt8):∀ (a:List Bool),a.length=256→(setOf cs a).getD x.toNat false=(cs.contains x||a.getD x.toNat false):=by
 induction cs with
 | nil=>intro a _;simp[setOf]
 | cons c cs ih =>
  intro a hl;show (setOf cs (List.set a c.toNat true)).getD x.toNat false=_;rw[ih _ (by simpa using hl)];have hx:=qhF x;have hc:=qhF c
  by_cases e:c=x
  ·subst e;have:(List.set a c.toNat true).getD c.toNat false=true:=by simp[getD,hl,hc]
   rw[this];simp
  ·have hne:c.toNat≠x.toNat:=fun h=>e (UInt8.toNat_inj.1 h);have:(List.set a c.toNat true).getD x.toNat false=a.getD x.toNat false:=by simp[getD,List.getElem?_set_ne hne]
   rw[this];have hb:¬ x=c:=fun h=>e h.symm;simp[hb]
theorem dT {p:Prop} [Decidable p] (h:p):decide p=true:=yo h
theorem dF {p:Prop} [Decidable p] (h:¬ p):decide p=false:=yx h
theorem wr (h : -9223372036854775808≤x∧x≤9223372036854775807):wrap .i64 x=x:=IntWalk.i64_in x h
theorem tn (i:Nat):toNat (i:Int)=i:=Int.toNat_natCast i
theorem bneI (h:a≠b):(a==b)=false:=by simp[h]
theorem qm {α:Type} {l:List α} (h:l.length≤1048576):lenOk l=true:=by unfold lenOk;rw[ym];exact h
theorem qpo (p:UInt8→Bool) (t:LU) (x:UInt8):dropR p (t++[x])=bif p x then dropR p t else t++[x]:=by
 unfold dropR;rw[List.reverse_append,List.reverse_singleton,List.singleton_append,List.dropWhile_cons];cases p x <;> simp
theorem qse (cs:LU) (c:UInt8):z168 (z167 cs).1 c=cs.contains c:=by
 have:=qCL cs c (replicate 256 false) yQ;unfold z168 z167;have hc:c.toNat < 256:=c.toNat_lt;rw[this,yY,List.getElem?_replicate,if_pos hc];exact Bool.or_false _
theorem bneT (h:a≠b):(a != b)=true:=by simp[bne,h]
theorem bneF (h:a=b):(a != b)=false:=by simp[h]
theorem qCM (ret:Bool→OA) (k0:OA) (hk:k0=ret false) (s:LU) (c:UInt8) (hl:s.length≤1048576):∀ (d i n:Nat),i+d=s.length→d < n →
 qhy ret k0 n s c (i:Nat)=ret ((s.drop i).contains c)
 | d,i,0,hi,hn=>by omega
 | 0,i,n+1,hi,hn=>by
  show qep ret k0 (qhy ret k0 n) n _ _ _=_;unfold qep;rw[dF (by omega),yd,yA (by omega),hk];rfl
 | d+1,i,n+1,hi,hn=>by
  show qep ret k0 (qhy ret k0 n) n _ _ _=_;unfold qep;have hlt:i < s.length:=by omega
  have ih:=qCM ret k0 hk s c hl d (i+1) n (by omega) (by omega);rw[qr (d:=(0:UInt8)) hlt,List.contains_cons];simp (disch:=omega) only [dT,yc,yi,tn,qd];rw[ih,show (s.getD i 0==c)=(c==s.getD i 0) from Bool.beq_comm];cases (c==s.getD i 0) <;> rfl
theorem qIp (s:LU) (c:UInt8) (hl:s.length≤1048576):∃ n,qpe n s c=qBy (z225 s c):=⟨s.length+1,by
 unfold qpe;have:=qCM qBy (qmF (s.length+1)) rfl s c hl s.length 0 (s.length+1) (by omega) (by omega);exact this⟩
theorem qIq:∀ (s0:LU) (c1:UInt8),(qKH s0 c1=true)→∃ n,qpe n s0 c1=qBy (z225 s0 c1):=fun s c h=>qIp s c (qb h)
theorem qIr:∀ (c0:UInt8) (kinds1:Int),∃ n,qVh n c0 kinds1=qBy (z136 c0 kinds1):=fun _ _=>⟨0,rfl⟩
theorem qVo {P:UInt8→Prop} (h:∀ i:Fin 256,P (ofNat i.val)) (c:UInt8):P c:=by
 have:=h ⟨c.toNat,c.toNat_lt⟩;simpa using this
theorem qXt (n:Int):tmod (tmod n 16+16) 16=n % 16:=by
 have h:tmod n 16=n % 16∨tmod n 16=n % 16 - 16:=by
  rcases Int.le_total 0 n with h | h
  ·exact .inl (Int.tmod_eq_emod_of_nonneg h)
  ·have h2:tmod n 16 = -((-n) % 16):=by
    have:=Int.neg_tmod (-n) 16;rw[Int.neg_neg] at this;rw[this,Int.tmod_eq_emod_of_nonneg (by omega)]
   omega
 have h3:0≤tmod n 16+16:=by omega
 rw[Int.tmod_eq_emod_of_nonneg h3];omega
theorem qsf (n:Int) : -16 < tmod n 16∧tmod n 16 < 16:=by
 have h:tmod n 16=n % 16∨tmod n 16=n % 16 - 16∧n % 16≠0:=by
  rcases Int.le_total 0 n with h | h
  ·exact .inl (Int.tmod_eq_emod_of_nonneg h)
  ·have h2:tmod n 16 = -((-n) % 16):=by
    have:=Int.neg_tmod (-n) 16;rw[Int.neg_neg] at this;rw[this,Int.tmod_eq_emod_of_nonneg (by omega)]
   omega
 omega
theorem qsg:∀ j:Fin 16,(bif decide (((j.val:Nat):Int) < 10) then ofNat (toNat (wrap .u8 (wrap .i64 ((48:Int)+((j.val:Nat):Int)))))
 else ofNat (toNat (wrap .u8 (wrap .i64 ((wrap .i64 ((65:Int)+((j.val:Nat):Int))) - (10:Int))))))=getD hexD j.val 0:=by decide +kernel
theorem qIs:∀ (n0:Int),(qcl n0=true)→∃ n,qLP n n0=qmi (z189 n0):=fun n _=>⟨0,by
 unfold qLP qfU z189;have hr:=qsf n;rw[IntWalk.i64_in (tmod n 16+16) (by omega),qXt];have hj:(n % 16).toNat < 16:=by omega
 have:=qsg ⟨(n % 16).toNat,hj⟩;simp only[Int.toNat_of_nonneg (show 0≤n % 16 by omega)] at this;rw[← this];cases decide (n % 16 < 10) <;> rfl⟩
theorem qCN (c:UInt8):wrap .i64 ((UInt8.toNat c:Nat):Int)=((UInt8.toNat c:Nat):Int):=by
 have:=c.toNat_lt;exact IntWalk.i64_in _ (by omega)
theorem qsh:∀ i:Fin 256,0≤(z230 (ofNat i.val)).1∧(z230 (ofNat i.val)).1 < 16:=by decide +kernel
theorem qCO {P:UInt8→Prop} (h:∀ i:Fin 256,P (ofNat i.val)) (c:UInt8):P c:=by
 have:=h ⟨c.toNat,c.toNat_lt⟩;simpa using this
theorem qeC (c:UInt8):0≤(z230 c).1∧(z230 c).1 < 16:=qCO (P:=fun c=>0≤(z230 c).1∧(z230 c).1 < 16) qsh c
theorem qPt:∀ a b:Fin 16,ofNat (toNat (wrap .u8 (bits .or .i64 (wrap .i64 (((a.val:Nat):Int)*2 ^ (min (toNat (4:Int)) (IntKind.bits .i64)))) ((b.val:Nat):Int))))=ofNat (toNat (((a.val:Nat):Int)*16+((b.val:Nat):Int))):=by decide +kernel
theorem qCP {P:Int→Int→Prop} (h:∀ a b:Fin 16,P ((a.val:Nat):Int) ((b.val:Nat):Int)) {y:Int} (hx:0≤x∧x < 16) (hy:0≤y∧y < 16):P x y:=by
 have:=h ⟨x.toNat,by omega⟩ ⟨y.toNat,by omega⟩;simp only[Int.toNat_of_nonneg hx.1,Int.toNat_of_nonneg hy.1] at this;exact this
theorem qkY (s:LU) (at1:Int) (hl:s.length≤1048576) (h0:¬ at1 < 0) (h1:¬ wrap .i64 (((length s:Nat):Int) - 3) < at1):∃ i:Nat,at1=i∧i+2 < s.length:=by
 rw[IntWalk.i64_in _ (by omega)] at h1;exact⟨at1.toNat,by omega,by omega⟩
theorem qpp:∀ i:Fin 256,[z189 (wrap .i64 (tdiv (wrap .i64 ((UInt8.toNat (ofNat i.val):Nat):Int)) (16:Int))),z189 (tmod (wrap .i64 ((UInt8.toNat (ofNat i.val):Nat):Int)) (16:Int))]=z219 (ofNat i.val):=by decide +kernel
theorem qwG:∀ i:Fin 256,qcl (wrap .i64 (tdiv (wrap .i64 ((UInt8.toNat (ofNat i.val):Nat):Int)) (16:Int)))=true∧qcl (tmod (wrap .i64 ((UInt8.toNat (ofNat i.val):Nat):Int)) (16:Int))=true ∧
 qeI (wrap .i64 ((UInt8.toNat (ofNat (UInt8.toNat (ofNat i.val) / 2 ^ (min (toNat (4:Int)) 8))):Nat):Int))=true∧qeI (wrap .i64 ((UInt8.toNat (ofNat i.val):Nat):Int))=true:=by decide +kernel
theorem qPu (c:UInt8):[z189 (wrap .i64 (tdiv (wrap .i64 ((UInt8.toNat c:Nat):Int)) (16:Int))),z189 (tmod (wrap .i64 ((UInt8.toNat c:Nat):Int)) (16:Int))]=z219 c:=qCO (P:=fun c=>[z189 (wrap .i64 (tdiv (wrap .i64 ((UInt8.toNat c:Nat):Int)) (16:Int))),z189 (tmod (wrap .i64 ((UInt8.toNat c:Nat):Int)) (16:Int))]=z219 c) qpp c
theorem qVp (c:UInt8):qcl (wrap .i64 (tdiv (wrap .i64 ((UInt8.toNat c:Nat):Int)) (16:Int)))=true∧qcl (tmod (wrap .i64 ((UInt8.toNat c:Nat):Int)) (16:Int))=true ∧
 qeI (wrap .i64 ((UInt8.toNat (ofNat (UInt8.toNat c / 2 ^ (min (toNat (4:Int)) 8))):Nat):Int))=true∧qeI (wrap .i64 ((UInt8.toNat c:Nat):Int))=true:=qCO (P:=fun c=>qcl (wrap .i64 (tdiv (wrap .i64 ((UInt8.toNat c:Nat):Int)) (16:Int)))=true∧qcl (tmod (wrap .i64 ((UInt8.toNat c:Nat):Int)) (16:Int))=true ∧
 qeI (wrap .i64 ((UInt8.toNat (ofNat (UInt8.toNat c / 2 ^ (min (toNat (4:Int)) 8))):Nat):Int))=true∧qeI (wrap .i64 ((UInt8.toNat c:Nat):Int))=true) qwG c
theorem qIt:∀ (b0:LU) (sign1:UInt8) (c2:UInt8),(qtg b0 sign1 c2=true)→∃ n,qLQ n b0 sign1 c2=qCd (z137 b0 sign1 c2):=fun b sign c h=>⟨0,by
 have hl:=qb h;obtain⟨h1,h2,_,_⟩:=qVp c;unfold qLQ qjK qdT z137;rw[h1,h2,yo (by unfold room;simp;omega),yi,yc,yc,yo (by unfold room;simp;omega),yc,← qPu c];rfl⟩
theorem beqT (h:a=b):(a==b)=true:=by simp[h]
theorem beqF (h:a≠b):(a==b)=false:=by simp[h]
theorem qdf {t:LI} {p:Int→Bool} {k0:OA} {ret:Int→OA} {L:Nat→Int→OA} (hl:t.length≤1048576)
 (hL:∀ n (i:Nat),i < t.length→L (n+1) (i:Int)=bif p (t.getD i 0) then L n ((i+1:Nat):Int) else ret (i:Int)) (hE:∀ n,L (n+1) (t.length:Nat)=k0) :
 ∀ d i n:Nat,i+d=t.length→d < n→L n (i:Int)=bif qac p (t.drop i) i == -1 then k0 else ret (qac p (t.drop i) i)
 | d,i,0,hi,hn=>by omega
 | 0,i,n+1,hi,hn=>by
  obtain rfl:i=t.length:=by omega
  rw[hE,yA (by omega)];rfl
 | d+1,i,n+1,hi,hn=>by
  have hlt:i < t.length:=by omega
  rw[hL n i hlt,qdf hl hL hE d (i+1) n (by omega) (by omega),qr (d:=(0:Int)) hlt];rw[show qac p (t.getD i 0 :: t.drop (i+1)) (i:Int)=bif p (t.getD i 0) then qac p (t.drop (i+1)) ((i+1:Nat):Int) else (i:Int) from rfl];cases p (t.getD i 0) with
  | true=>rfl
  | false =>
   have:((i:Int) == -1)=false:=by simp only[yB,ne_eq];omega
   simp[this]
theorem qIu:∀ (n0:Int),∃ n,qLl n n0=qmi (z185 n0):=fun c=>⟨0,by
 unfold qLl z185;cases (c==(2:Int)) <;> cases (c==(3:Int)) <;> cases (c==(4:Int)) <;> rfl⟩
theorem qIv:∃ n,qUL n  = qBR z176:=⟨0,rfl⟩
theorem qIw:∃ n,qLi n  = qBS z177:=⟨0,rfl⟩
theorem qCQ {α β:Type} (f:α→β) (t:List α) (z:β) (i:Nat) (h:i < t.length) (d:α) :
 ((t.take i).map f++replicate (t.length - i) z).set i (f (t.getD i d))=(t.take (i+1)).map f++replicate (t.length - (i+1)) z:=by
 rw[List.set_append_right _ _ (by simp;omega)];have h1:((t.take i).map f).length=i:=by simp;omega
 rw[h1,Nat.sub_self,show t.length - i=(t.length - (i+1))+1 by omega,List.replicate_succ,List.set_cons_zero,List.take_succ_eq_append_getElem h,List.map_append,yl];simp[getD,h]
theorem qhh (x:UInt8):wrap .i32 ((UInt8.toNat x:Nat):Int)=((UInt8.toNat x:Nat):Int):=IntWalk.i32_in _ (by have:=x.toNat_lt;omega)
theorem qPv:∀ (x0:UInt8),∃ n,qVe n x0=qrK (z90 x0):=fun x=>⟨0,by
 unfold qVe z90;rw[qhh];cases (x==(164:UInt8)) <;> cases (x==(166:UInt8)) <;> cases (x==(168:UInt8)) <;> cases (x==(180:UInt8)) <;> cases (x==(184:UInt8)) <;> cases (x==(188:UInt8)) <;> cases (x==(189:UInt8)) <;> cases (x==(190:UInt8)) <;> rfl⟩
theorem qPw:∀ (x0:UInt8),∃ n,qVf n x0=qrK (z91 x0):=fun x=>⟨0,by
 unfold qVf qmC z91;rw[qhh];have hx:=x.toNat_lt
 by_cases h1:x < 128
 ·rw[dT h1];rfl
 ·by_cases h2:159 < x
  ·rw[dF h1,dT h2];rfl
  ·rw[dF h1,dF h2];have h3:128≤x.toNat:=by have:=UInt8.not_lt.1 h1;exact UInt8.le_iff_toNat_le.1 this
   have h4:x.toNat≤159:=by have:=UInt8.not_lt.1 h2;exact UInt8.le_iff_toNat_le.1 this
   have h5:(x - 128).toNat=x.toNat - 128:=UInt8.toNat_sub_of_le _ _ (UInt8.not_lt.1 h1);rw[h5];simp (disch:=(first | omega | (simp;omega))) only [dT,yi,yc,yd,Bool.or_false,tn];rfl⟩
theorem qsi {sign:UInt8→Int} {put:Int→UInt8×Bool} {c:Int} {L:Nat→Int→OA} {ret:UInt8→Bool→OA}
 (hL:∀ n i:Nat,i < 256→L (n+1) (i:Int)=bif sign (ofNat i)==c then (bif c != 65533 then ret (ofNat i) true else L n ((i+1:Nat):Int)) else L n ((i+1:Nat):Int)) (hE:∀ n,L (n+1) ((256:Nat):Int)=ret 0 false)
 (hA:∀ i:Nat,i < 256→sign (ofNat i)=c→c≠65533→put c=(ofNat i,true)) (hB:(put c).2=true→sign (put c).1=c∧c≠65533) (hC:(put c).2=false→(put c).1=0) :
 ∀ d i n:Nat,i+d=256→d < n→(∀ j:Nat,j < i→¬ (sign (ofNat j)=c∧c≠65533))→L n (i:Int)=ret (put c).1 (put c).2
 | d,i,0,hi,hn,_=>by omega
 | 0,i,n+1,hi,hn,hno=>by
  obtain rfl:i=256:=by omega
  rw[hE];cases h:(put c).2 with
  | true =>
   have:=hB h;exact absurd (by simpa using this) (hno (put c).1.toNat (put c).1.toNat_lt)
  | false=>rw[hC h]
 | d+1,i,n+1,hi,hn,hno=>by
  have ih:¬ (sign (ofNat i)=c∧c≠65533)→L n ((i+1:Nat):Int)=ret (put c).1 (put c).2:=fun h=>qsi hL hE hA hB hC d (i+1) n (by omega) (by omega) fun j hj=>by
   by_cases e:j=i
   ·subst e;exact h
   ·exact hno j (by omega)
  rw[hL n i (by omega)]
  by_cases h1:sign (ofNat i)=c
  ·by_cases h2:c=65533
   ·rw[beqT h1,bneF h2,yc,yd,ih (fun h=>h.2 h2)]
   ·rw[beqT h1,bneT h2,yc,yc,hA i (by omega) h1 h2]
  ·rw[beqF h1,yd,ih (fun h=>h1 h.1)]
theorem qdV {α β:Type} {t:List α} {dv:α} {f:α→List β} {q:α→Bool} {k0:List β→OA} {R:OA} {L:Nat→List β→Int→OA} {b:Nat} (hf:∀ x,(f x).length≤b)
 (hL:∀ (n i:Nat) (out:List β),i < t.length→out.length+b≤room→L (n+1) out (i:Int)=bif q (t.getD i dv) then L n (out++f (t.getD i dv)) ((i+1:Nat):Int) else R) (hE:∀ n out,L (n+1) out ((t.length:Nat):Int)=k0 out) :
 ∀ (d i n:Nat) (out:List β),i+d=t.length→d < n→out.length+b*d≤room→L n out (i:Int)=bif (t.drop i).all q then k0 (out++(t.drop i).flatMap f) else R
 | d,i,0,out,hi,hn,_=>by omega
 | 0,i,n+1,out,hi,hn,_=>by
  obtain rfl:i=t.length:=by omega
  rw[hE,yA (by omega)];simp
 | d+1,i,n+1,out,hi,hn,hb=>by
  have hlt:i < t.length:=by omega
  have hx:=hf (t.getD i dv);have hb':b*(d+1)=b*d+b:=by rw[Nat.mul_succ]
  have h0:0≤b*d:=Nat.zero_le _;rw[hL n i out hlt (by omega),qdV (α:=α) (β:=β) hf hL hE d (i+1) n _ (by omega) (by omega) (by rw[yn];omega),qr (d:=dv) hlt];simp only[List.all_cons,List.flatMap_cons,yl];cases q (t.getD i dv) <;> rfl
theorem qnd {α β:Type} (f:α→β):∀ l:List α,l.flatMap (fun x=>[f x])=l.map f
 | []=>rfl
 | x :: r=>by rw[List.flatMap_cons,qnd f r];rfl
theorem qne {α:Type}:∀ l:List α,l.all (fun _=>true)=true
 | []=>rfl
 | _ :: r=>by rw[List.all_cons,qne r];rfl
theorem qbD {s:LU} (h:i < s.length):s.drop i=s.getD i 0 :: s.drop (i+1):=by
 rw[List.drop_eq_getElem_cons h,yY,yO h];rfl
theorem qin (c:UInt8):qc c≤4:=by
 unfold qc;cases decide (c < 128) <;> cases decide (c < 194)||decide (244 < c) <;> cases decide (c < 224) <;> cases decide (c < 240) <;> decide
theorem qPx:∀ (c0:Int),∃ n,qVb n c0=qBy (z77 c0):=fun c=>⟨0,by
 unfold qVb z77;cases decide ((55296:Int)≤c) <;> rfl⟩
theorem qPy:∀ (c0:Int),∃ n,qVc n c0=qBy (z36 c0):=fun c=>⟨0,by
 unfold qVc z36;cases decide ((0:Int)≤c) <;> cases decide (c≤(1114111:Int)) <;> rfl⟩
theorem qhi {p:Int→Bool} {k0:OA} {ret:Int→OA} {x:OA} (h:x=bif qac p (t.drop 0) (0:Nat) == -1 then k0 else ret (qac p (t.drop 0) (0:Nat))) (hk:k0=ret (-1)):x=ret (qac p t 0):=by
 rw[h,yw];cases e:(qac p t (0:Nat) == -1) with
 | true =>
  rw[beq_iff_eq] at e;have e':qac p t 0 = -1:=e;rw[e',hk];rfl
 | false=>rfl
theorem qpq (c:Int):z184 c=0∨z184 c=1∨z184 c=2∨z184 c=3∨z184 c=4:=by
 unfold z184;cases z161 c <;> cases decide (c < (128:Int)) <;> cases decide (c < (2048:Int)) <;> cases decide (c < (65536:Int)) <;> simp
theorem qkk (h0:0≤c) (h1:c≤1114111):wrap .i64 c=c:=IntWalk.i64_in c (by omega)
theorem qIx:∀ (c0:Int),∃ n,qLN n c0=qCc (z135 c0):=fun c=>⟨0,by
 unfold qLN qjI qfT z135;cases h:z36 c with
 | false=>rfl
 | true =>
  unfold z36 at h;simp only[yf,ym] at h;have e1:tdiv c 64=c / 64:=Int.tdiv_eq_ediv_of_nonneg h.1;have e2:tdiv c 4096=c / 4096:=Int.tdiv_eq_ediv_of_nonneg h.1;have e3:tdiv c 262144=c / 262144:=Int.tdiv_eq_ediv_of_nonneg h.1;have e4:tmod c 64=c % 64:=Int.tmod_eq_emod_of_nonneg h.1;have e5:tmod (c / 64) 64=c / 64 % 64:=Int.tmod_eq_emod_of_nonneg (by omega);have e6:tmod (c / 4096) 64=c / 4096 % 64:=Int.tmod_eq_emod_of_nonneg (by omega);rw[qkk h.1 h.2.1,e1,e2,e3,e4,qkk (c:=c / 64) (by omega) (by omega),qkk (c:=c / 4096) (by omega) (by omega),qkk (c:=c / 262144) (by omega) (by omega),e5,e6,
   qkk (c:=192+c / 64) (by omega) (by omega),qkk (c:=128+c % 64) (by omega) (by omega),qkk (c:=224+c / 4096) (by omega) (by omega),qkk (c:=128+c / 64 % 64) (by omega) (by omega),
   qkk (c:=240+c / 262144) (by omega) (by omega),qkk (c:=128+c / 4096 % 64) (by omega) (by omega)]
  cases decide (c < (128:Int)) <;> cases decide (c < (2048:Int)) <;> cases decide (c < (65536:Int)) <;> rfl⟩
theorem qIy:∀ (x0:UInt8),∃ n,qVd n x0=qrK (z187 x0):=fun _=>⟨0,rfl⟩
theorem qwH (i:Int) (h0:0≤i) (h1:i < 256):z187 (ofNat (toNat (wrap .u8 i)))=i:=by
 unfold z187;rw[IntWalk.u8_in i (by omega),UInt8.toNat_ofNat',Nat.mod_eq_of_lt (by omega),IntWalk.i32_in _ (by omega)];omega
theorem quJ (ret:UInt8→Bool→OA) (k0:OA) (c:Int):∀ (d:Nat) (i:Int) (n:Nat),i=256 - d→0≤i→d < n →
 qjF ret k0 n c i=bif decide (i≤c)&&decide (c < 256) then ret (ofNat c.toNat) true else k0
 | d,i,0,hi,h0,hn=>by omega
 | 0,i,n+1,hi,h0,hn=>by
  obtain rfl:i=256:=by omega
  have h1:(decide ((256:Int)≤c)&&decide (c < 256))=false:=by
   simp only[Bool.and_eq_false_iff,decide_eq_false_iff_not];omega
  rw[h1];rfl
 | d+1,i,n+1,hi,h0,hn=>by
  have hlt:i < 256:=by omega
  show qig ret k0 (qjF ret k0 n) n c i=_;unfold qig;rw[yo hlt,yc,qwH i h0 hlt,IntWalk.i64_in (i+1) (by omega),quJ ret k0 c d (i+1) n (by omega) (by omega) (by omega)]
  by_cases e:i=c
  ·subst e;have h1:(i != 65533)=true:=by simp only[bne_iff_ne,ne_eq];omega
   rw[beq_self_eq_true,yc,h1,yc,yo (Int.le_refl i),yo hlt,IntWalk.u8_in i (by omega)];rfl
  ·have h1:(i==c)=false:=by simp[e]
   have h2:decide (i+1≤c)=decide (i≤c):=by simp only[decide_eq_decide];omega
   rw[h1,yd,h2]
theorem qIz:∀ (c0:Int),∃ n,quv n c0=qmj (z132 c0).1 (z132 c0).2:=fun c=>⟨257,by
 unfold quv z132;rw[quJ _ _ c 256 0 257 (by omega) (by omega) (by omega)];cases decide (0≤c)&&decide (c < 256) <;> rfl⟩
theorem qCR (i:Nat) (h:i < 256):ofNat (toNat (wrap .u8 (i:Int)))=ofNat i:=by
 rw[IntWalk.u8_in _ (by omega)];simp
theorem qXu:∀ i:Fin 256,z127 (z90 (ofNat i.val))=(ofNat i.val,true):=by decide +kernel
theorem qXv:∀ i:Fin 256,((z127 ((i.val:Nat):Int)).2=true→z90 (z127 ((i.val:Nat):Int)).1=((i.val:Nat):Int))∧((z127 ((i.val:Nat):Int)).2=false→(z127 ((i.val:Nat):Int)).1=0):=by decide +kernel
theorem qXw:∀ c∈([8364,352,353,381,382,338,339,376]:LI),(z127 c).2=true∧z90 (z127 c).1=c∧c≠65533:=by decide +kernel
theorem qPz (h:c ∉ ([8364,352,353,381,382,338,339,376]:LI)) (hc:c < 0∨256≤c):z127 c=(0,false):=by
 simp only[List.mem_cons,List.not_mem_nil,or_false,not_or] at h;obtain⟨h1,h2,h3,h4,h5,h6,h7,h8⟩:=h;unfold z127;simp (disch:=omega) only [beqF,yd];rw[show (decide (c < 0)||decide (256≤c))=true by simp;omega];rfl
theorem qpr (c:Int):((z127 c).2=true→z90 (z127 c).1=c∧c≠65533)∧((z127 c).2=false→(z127 c).1=0):=by
 by_cases h:c∈([8364,352,353,381,382,338,339,376]:LI)
 ·have:=qXw c h;exact⟨fun _=>this.2,fun e=>by rw[this.1] at e;cases e⟩
 ·by_cases hc:c < 0∨256≤c
  ·rw[qPz h hc];exact⟨(fun e=>by cases e),fun _=>rfl⟩
  ·have hb:=qXv ⟨c.toNat,by omega⟩;simp only[Int.toNat_of_nonneg (show 0≤c by omega)] at hb;exact⟨fun e=>⟨hb.1 e,by omega⟩,hb.2⟩
theorem qIA:∀ (c0:Int),∃ n,quw n c0=qmj (z133 c0).1 (z133 c0).2:=fun c=>⟨257,by
 unfold quw z133;refine qsi (sign:=z90) (put:=z127) (L:=fun n i=>qkO qmj (qmB 257) n c i) (fun n i hi=>?_) (fun n=>rfl) (fun i hi h1 h2=>?_) (qpr c).1 (qpr c).2 256 0 257 (by omega) (by omega) (fun j hj=>by omega)
 ·show qih _ _ _ n _ _=_;unfold qih;simp (disch:=omega) only [dT,yc,qd,qCR]
 ·have:=qXu ⟨i,hi⟩;rw[← h1];exact this⟩
theorem win_A:∀ i:Fin 256,z91 (ofNat i.val)≠65533→z129 (z91 (ofNat i.val))=(ofNat i.val,true):=by decide +kernel
theorem win_B:∀ i:Fin 256,((z129 ((i.val:Nat):Int)).2=true→z91 (z129 ((i.val:Nat):Int)).1=((i.val:Nat):Int))∧((z129 ((i.val:Nat):Int)).2=false→(z129 ((i.val:Nat):Int)).1=0):=by decide +kernel
theorem win_C:∀ c∈z177,256≤c→(z129 c).2=true∧z91 (z129 c).1=c∧c≠65533:=by decide +kernel
theorem qCS (c:Int):∀ (l:LI) (i:Int),0≤i→c ∉ l→qac (fun x => !(c==x)) l i = -1
 | [],_,_,_=>rfl
 | x :: r,i,hi,h=>by
  simp only[List.mem_cons,not_or] at h;unfold qac;rw[beqF h.1];exact qCS c r (i+1) (by omega) h.2
theorem qVq (h:c ∉ z177) (hc:c < 0∨256≤c):z129 c=(0,false):=by
 unfold z129 z186;rw[qCS c _ 0 (by omega) h,show ((decide (0≤c)&&decide (c < 128))||(decide (160≤c)&&decide (c < 256)))=false by simp;omega];cases decide (c < 256) <;> rfl
theorem quK (c:Int):((z129 c).2=true→z91 (z129 c).1=c∧c≠65533)∧((z129 c).2=false→(z129 c).1=0):=by
 by_cases hc:c < 0∨256≤c
 ·by_cases h:c∈z177
  ·by_cases h0:c < 0
   ·have:∀ c∈z177,0≤c:=by decide +kernel
    have:=this c h;omega
   ·have:=win_C c h (by omega);exact⟨fun _=>this.2,fun e=>by rw[this.1] at e;cases e⟩
  ·rw[qVq h hc];exact⟨(fun e=>by cases e),fun _=>rfl⟩
 ·have hb:=win_B ⟨c.toNat,by omega⟩;simp only[Int.toNat_of_nonneg (show 0≤c by omega)] at hb;exact⟨fun e=>⟨hb.1 e,by omega⟩,hb.2⟩
theorem qIB:∀ (c0:Int),∃ n,quy n c0=qmj (z134 c0).1 (z134 c0).2:=fun c=>⟨257,by
 unfold quy z134;refine qsi (sign:=z91) (put:=z129) (L:=fun n i=>qkP qmj (qmD 257) n c i) (fun n i hi=>?_) (fun n=>rfl) (fun i hi h1 h2=>?_) (quK c).1 (quK c).2 256 0 257 (by omega) (by omega) (fun j hj=>by omega)
 ·show qii _ _ _ n _ _=_;unfold qii;simp (disch:=omega) only [dT,yc,qd,qCR]
 ·have:=win_A ⟨i,hi⟩;rw[← h1] at h2 ⊢;exact this h2⟩
theorem qbj {α β:Type} (g:α→β):∀ l:List α,l.flatMap (fun x=>[g x])=l.map g
 | []=>rfl
 | x :: r=>by rw[List.flatMap_cons,qbj g r];rfl
theorem qIC:∀ (charset0:Int) (c1:Int),∃ n,qLM n charset0 c1=qBy (z131 charset0 c1):=fun cs c=>⟨0,by
 unfold qLM z131;cases (cs==(1:Int)) <;> cases (cs==(2:Int)) <;> cases (cs==(3:Int)) <;> cases (cs==(4:Int)) <;> cases (cs==(5:Int)) <;> cases decide ((0:Int)≤c) <;> rfl⟩
theorem qCT (c:Int):(z126 [] c).1.length≤4:=by
 unfold z126;rcases qpq c with e | e | e | e | e <;> rw[e] <;> simp
theorem qPA:∀ (charset0:Int) (c1:Int),∃ n,qVg n charset0 c1=qdL (z71 charset0 c1):=fun cs c=>⟨0,by
 unfold qVg z71;cases z131 cs c <;> cases (cs==(1:Int)) <;> cases (cs==(2:Int)) <;> cases (cs==(3:Int)) <;> cases (cs==(4:Int)) <;> rfl⟩
theorem qID (c:Int):(z135 c).length≤4:=by
 unfold z135;cases z36 c <;> cases decide (c < (128:Int)) <;> cases decide (c < (2048:Int)) <;> cases decide (c < (65536:Int)) <;> simp
theorem qps (cs c:Int):(z71 cs c).length≤4:=by
 unfold z71;have:=qID c;cases z131 cs c <;> cases (cs==(1:Int)) <;> cases (cs==(2:Int)) <;> cases (cs==(3:Int)) <;> cases (cs==(4:Int)) <;> simp[this]
theorem qPB:∀ (charset0:Int) (t1:LI),(qEP charset0 t1=true)→∃ n,qHZ n charset0 t1=qBM (z32 charset0 t1).1 (z32 charset0 t1).2:=fun cs t h=>⟨t.length+1,by
 have hl:=qb (l:=t) h;unfold qHZ z32;cases decide (cs < 1) <;> cases decide (5 < cs)
 ·have:=qdV (t:=t) (dv:=0) (f:=z71 cs) (q:=fun c=>(z71 cs c).length != 0) (b:=4) (k0:=qmE (t.length+1)) (R:=qBM [] 9)
   (L:=fun n out i=>qwB qBM (qmE (t.length+1)) n cs t out i) (qps cs) (fun n i out hi hb=>by
    show qgR _ _ _ n _ _ _ _=_;unfold qgR;have hp:=qps cs (t.getD i 0);simp (disch:=omega) only [dT,yc,yi,tn,qd];rw[show ((((z71 cs (t.getD i 0)).length:Nat):Int)==0) = !((z71 cs (t.getD i 0)).length != 0) from by
     cases (z71 cs (t.getD i 0)).length <;> rfl]
    cases (z71 cs (t.getD i 0)).length != 0 <;> rfl) (fun n out=>by
    show qgR _ _ _ n _ _ _ _=_;unfold qgR;rw[dF (by omega)];rfl) t.length 0 (t.length+1) [] (by omega) (by omega) (by unfold room;simp;omega)
  refine this.trans ?_;rw[yw];simp only[Bool.or_self,yd,List.nil_append];cases t.all (fun c=>(z71 cs c).length != 0) <;> rfl
 ·rfl
 ·rfl
 ·rfl⟩
theorem qfh (h:i32s t=true) (hc:c∈t) : -2147483648≤c∧c≤2147483647:=by
 unfold i32s at h;rw[List.all_eq_true] at h;simpa using h c hc
theorem qVr (h : -2147483648≤c∧c≤2147483647):wrap .u32 c=if 0≤c then c else c+4294967296:=by
 by_cases h0:0≤c
 ·rw[if_pos h0,IntWalk.u32_in c (by omega)]
 ·rw[if_neg h0];have:wrap .u32 c=c % 4294967296:=rfl;rw[this];omega
theorem qnf (h : -2147483648≤c∧c≤2147483647):z161 c=z36 c:=by
 unfold z161 z36;rw[show z77 c=z211 c from rfl,← Bool.and_assoc,qVr h];congr 1;rw[Bool.eq_iff_iff];simp only[yf,ym];split <;> omega
theorem qsj (h : -2147483648≤c∧c≤2147483647):z158 c=(z132 c).2:=by
 unfold z158 z132;rw[qVr h];have:decide ((if 0≤c then c else c+4294967296) < 256)=(decide (0≤c)&&decide (c < 256)):=by
  rw[Bool.eq_iff_iff];simp only[yf,ym];split <;> omega
 rw[this];cases (decide (0≤c)&&decide (c < 256)) <;> rfl
theorem qPC (cs:Int) (h : -2147483648≤c∧c≤2147483647):z105 cs c=z131 cs c:=by
 unfold z105 z131;rw[qsj h,qnf h];rfl
theorem qsk (p:Int→Bool):∀ (t:LI) (i:Int),0≤i→(qac p t i = -1∧t.all p=true)∨(0≤qac p t i∧t.all p=false)
 | [],_,_=>.inl ⟨rfl,rfl⟩
 | x :: r,i,hi=>by
  rw[show qac p (x :: r) i=bif p x then qac p r (i+1) else i from rfl,List.all_cons];cases p x with
  | true=>simpa using qsk p r (i+1) (by omega)
  | false=>exact .inr ⟨hi,rfl⟩
theorem qsl (p:Int→Bool) (t:LI):(qac p t 0 == -1)=t.all p:=by
 rcases qsk p t 0 (by omega) with ⟨h1,h2⟩ | ⟨h1,h2⟩
 ·rw[h1,h2];rfl
 ·rw[h2,beqF (by omega)]
theorem qCU (p:Int→Bool) (t:LI):(qac p t 0 != -1) = !(t.all p):=by rw[← qsl];rfl
theorem qVs (p:Int→Bool) (t:LI):decide (0≤qac p t 0) = !(t.all p):=by
 rcases qsk p t 0 (by omega) with ⟨h1,h2⟩ | ⟨h1,h2⟩
 ·rw[h1,h2];rfl
 ·rw[h2,dT h1];rfl
theorem qCV {p q:Int→Bool} (h:∀ c∈t,p c=q c):t.all p=t.all q:=by
 rw[Bool.eq_iff_iff,List.all_eq_true,List.all_eq_true];exact⟨fun k c hc=>by rw[← h c hc];exact k c hc,fun k c hc=>by rw[h c hc];exact k c hc⟩
theorem qcd {f g:Int→LU}:∀ {t:LI},(∀ c∈t,f c=g c)→t.flatMap f=t.flatMap g
 | [],_=>rfl
 | x :: r,h=>by rw[List.flatMap_cons,List.flatMap_cons,h x (by simp),qcd fun c hc=>h c (by simp[hc])]
theorem lead2:∀ i:Fin 32,(192:UInt8) ||| oct8 ((i.val:Nat):Int)=oct8 (192+((i.val:Nat):Int)):=by decide +kernel
theorem lead3:∀ i:Fin 16,(224:UInt8) ||| oct8 ((i.val:Nat):Int)=oct8 (224+((i.val:Nat):Int)):=by decide +kernel
theorem lead4:∀ i:Fin 8,(240:UInt8) ||| oct8 ((i.val:Nat):Int)=oct8 (240+((i.val:Nat):Int)):=by decide +kernel
theorem qCW:∀ i:Fin 256,foll ((i.val:Nat):Int)=oct8 (128+((i.val:Nat):Int) % 64):=by decide +kernel
theorem qPD (n:Int):oct8 n=oct8 (n % 256):=by
 unfold oct8;have:wrap .u8 n=n % 256:=rfl;have h2:wrap .u8 (n % 256)=n % 256 % 256:=rfl;rw[this,h2];congr 1;congr 1;omega
theorem qVt (n:Int):foll n=oct8 (128+n % 64):=by
 have h:=qCW ⟨(n % 256).toNat,by omega⟩;simp only[Int.toNat_of_nonneg (show 0≤n % 256 by omega)] at h;rw[show n % 256 % 64=n % 64 by omega] at h;rw[← h];unfold foll;rw[← qPD]
theorem qXx (h:z36 c=true) (h32 : -2147483648≤c∧c≤2147483647):(z126 [] c).1=z135 c:=by
 have hs:=(qnf h32).trans h;have hr:0≤c∧c≤1114111:=by
  unfold z36 at h;simp only[yf,ym] at h;exact⟨h.1,h.2.1⟩
 unfold z126 z184 z135;rw[hs,h];simp only[Bool.not_true,yd,qVt,Int.fdiv_eq_ediv_of_nonneg _ (show (0:Int)≤2 ^ 18 by decide),Int.fdiv_eq_ediv_of_nonneg _ (show (0:Int)≤2 ^ 12 by decide),Int.fdiv_eq_ediv_of_nonneg _ (show (0:Int)≤2 ^ 6 by decide),Int.fdiv_eq_ediv_of_nonneg _ (show (0:Int)≤2 ^ 0 by decide)];rw[show (2:Int) ^ 18=262144 from rfl,show (2:Int) ^ 12=4096 from rfl,show (2:Int) ^ 6=64 from rfl,show (2:Int) ^ 0=1 from rfl,Int.ediv_one]
 by_cases h1:c < 128
 ·rw[dT h1];show [(0:UInt8) ||| oct8 c]=[oct8 c];rw[UInt8.zero_or]
 ·rw[dF h1]
  by_cases h2:c < 2048
  ·rw[dT h2];have:=lead2 ⟨(c / 64).toNat,by omega⟩;simp only[Int.toNat_of_nonneg (show 0≤c / 64 by omega)] at this;show [(192:UInt8) ||| oct8 (c / 64),oct8 (128+c % 64)]=_;rw[this];rfl
  ·rw[dF h2]
   by_cases h3:c < 65536
   ·rw[dT h3];have:=lead3 ⟨(c / 4096).toNat,by omega⟩;simp only[Int.toNat_of_nonneg (show 0≤c / 4096 by omega)] at this;show [(224:UInt8) ||| oct8 (c / 4096),oct8 (128+c / 64 % 64),oct8 (128+c % 64)]=_;rw[this];rfl
   ·rw[dF h3];have:=lead4 ⟨(c / 262144).toNat,by omega⟩;simp only[Int.toNat_of_nonneg (show 0≤c / 262144 by omega)] at this;show [(240:UInt8) ||| oct8 (c / 262144),oct8 (128+c / 4096 % 64),oct8 (128+c / 64 % 64),oct8 (128+c % 64)]=_;rw[this];rfl
theorem quL (h:cs=1∨cs=2∨cs=3∨cs=4∨cs=5):((z71 cs c).length != 0)=z131 cs c:=by
 unfold z71;cases hh:z131 cs c with
 | false=>rfl
 | true =>
  rcases h with rfl | rfl | rfl | rfl | rfl
  ·rfl
  ·rfl
  ·rfl
  ·rfl
  ·have h3:z36 c=true:=hh;show ((z135 c).length != 0)=true;unfold z135;rw[h3];cases decide (c < (128:Int)) <;> cases decide (c < (2048:Int)) <;> cases decide (c < (65536:Int)) <;> rfl
theorem qVu (h:cs=1∨cs=2∨cs=3∨cs=4∨cs=5):0 < z65 cs:=by
 rcases h with rfl | rfl | rfl | rfl | rfl <;> decide
theorem qVv (cs:Int) (t:LI) (h:i32s t=true):z31 cs t=z32 cs t:=by
 by_cases hcs:cs=1∨cs=2∨cs=3∨cs=4∨cs=5
 ·have hsz:=qVu hcs;unfold z31 z32 z66 z124;rw[beqF (show z65 cs≠0 by omega),dT hsz,qsl,dF (show ¬ cs < 1 by omega),dF (show ¬ 5 < cs by omega),qCV (q:=z131 cs) (fun c hc=>qPC cs (qfh h hc)),qCV (p:=fun c=>(z71 cs c).length != 0) (q:=z131 cs) (fun c _=>quL hcs)];cases ha:t.all (z131 cs) with
  | false=>rfl
  | true =>
   rw[List.all_eq_true] at ha;show (bif cs==5 then z67 t else _)=(t.flatMap (z71 cs),0);rcases hcs with rfl | rfl | rfl | rfl | rfl
   ·show z70 t=_;have h2:t.all z158=true:=List.all_eq_true.2 fun c hc=>by
     have:=ha c hc;rw[qsj (qfh h hc)];unfold z132;have h3:(decide (0≤c)&&decide (c < 128))=true:=this;simp only[yf,ym] at h3;rw[dT h3.1,dT (show c < 256 by omega)];rfl
    unfold z70 z130;rw[qCU,h2];show (t.map _,(0:Int))=_;rw[← qbj];congr 1;exact qcd fun c hc=>by
     unfold z71;rw[ha c hc];rfl
   ·show z70 t=_;have h2:t.all z158=true:=List.all_eq_true.2 fun c hc=>by rw[qsj (qfh h hc)];exact ha c hc
    unfold z70 z130;rw[qCU,h2];show (t.map _,(0:Int))=_;rw[← qbj];congr 1;exact qcd fun c hc=>by
     have h3:(z132 c).2=true:=ha c hc;unfold z71;rw[ha c hc];show _=[(z132 c).1];unfold z132 at h3 ⊢;cases h4:(decide (0≤c)&&decide (c < 256)) with
     | false=>rw[h4] at h3;cases h3
     | true =>
      simp only[yf,ym] at h4;rw[IntWalk.u8_in c (by omega)];rfl
   ·show z68 t=_;unfold z68;rw[show t.all z159=true from List.all_eq_true.2 ha];show (t.map _,(0:Int))=_;rw[← qbj];congr 1;exact qcd fun c hc=>by
     unfold z71;rw[ha c hc];rfl
   ·show z69 t=_;unfold z69 z128;rw[qVs,show t.all z160=true from List.all_eq_true.2 ha];show (t.map _,(0:Int))=_;rw[← qbj];congr 1;exact qcd fun c hc=>by
     unfold z71;rw[ha c hc];rfl
   ·show z67 t=_;unfold z67 z125;rw[qsl,show t.all z161=true from List.all_eq_true.2 fun c hc=>(qnf (qfh h hc)).trans (ha c hc)];show (t.flatMap _,(0:Int))=_;congr 1;exact qcd fun c hc=>by
     have h3:z36 c=true:=ha c hc;unfold z71;rw[ha c hc,qXx h3 (qfh h hc)];rfl
 ·simp only[not_or] at hcs;obtain⟨h1,h2,h3,h4,h5⟩:=hcs;unfold z31 z32 z65;simp only[beqF h1,beqF h2,beqF h3,beqF h4,beqF h5,yd];rw[show (decide (cs < 1)||decide (5 < cs))=true by simp;omega];rfl
theorem qIE:∀ (charset0:Int) (t1:LI),(qtb charset0 t1=true)→∃ n,quH n charset0 t1=qKR (z107 charset0 t1):=fun cs t h=>⟨t.length+1,by
 have hl:=qb (l:=t) h;unfold quH z107;refine qhi (qdf (L:=fun n i=>qkW qKR (qna (t.length+1)) n cs t i) hl (fun n i hi=>?_) (fun n=>?_) t.length 0 (t.length+1) (by omega) (by omega)) rfl
 ·show qeB _ _ _ n _ _ _=_;unfold qeB;simp (disch:=omega) only [dT,yc,yi,tn,qd];cases z131 cs (t.getD i 0) <;> rfl
 ·show qeB _ _ _ n _ _ _=_;unfold qeB;rw[dF (by omega)];rfl⟩
theorem qPE:∀ (charset0:Int) (t1:LI),(qEC charset0 t1=true)→∃ n,qVn n charset0 t1=qBy (z51 charset0 t1):=fun cs t h=>⟨0,by
 unfold qVn z51;rw[show qtb cs t=true from h];cases decide (1≤cs) <;> cases decide (cs≤5) <;> rfl⟩
theorem qPF:∀ (t0:LI),(qED t0=true)→∃ n,qIh n t0=qCu (z26 t0).1 (z26 t0).2:=fun t h=>⟨6,by
 have ha:∀ n,qEC n t=true:=fun _=>h;have step:∀ (k:Nat) (i:Int),i≤5→qpl qCu (qjQ 6) (k+1) t i=bif z51 i t then qCu i 0 else qpl qCu (qjQ 6) k t (wrap .i64 (i+1)):=fun k i hi=>by
  show qhf _ _ _ k _ _=_;unfold qhf;rw[dT hi,ha];rfl
 have last:∀ (k:Nat),qpl qCu (qjQ 6) (k+1) t 6=qCu 0 7:=fun k=>by
  show qhf _ _ _ k _ _=_;unfold qhf;rw[dF (by omega)];rfl
 unfold qIh z26 selF qqj;rw[step 5 1 (by omega),show wrap .i64 (1+1)=2 from rfl,step 4 2 (by omega),show wrap .i64 (2+1)=3 from rfl,step 3 3 (by omega),show wrap .i64 (3+1)=4 from rfl,step 2 4 (by omega),show wrap .i64 (4+1)=5 from rfl,
  step 1 5 (by omega),show wrap .i64 (5+1)=6 from rfl,last 0]
 simp only[];cases z51 1 t <;> cases z51 2 t <;> cases z51 3 t <;> cases z51 4 t <;> cases z51 5 t <;> rfl⟩
theorem quM {f:Int→LU} (h:∀ c,(f c).length≤4):∀ t:LI,(t.flatMap f).length≤4*t.length
 | []=>by simp
 | c :: t=>by
  have h1:=quM h t;have h2:=h c;rw[List.flatMap_cons,yn,yg];omega
theorem qIF (t:LI):(z70 t).1.length≤t.length:=by
 unfold z70;cases z130 t != -1 <;> simp
theorem qpt (cs:Int) (t:LI):(z31 cs t).1.length≤4*t.length:=by
 have h1:(z67 t).1.length≤4*t.length:=by
  unfold z67;have:=quM qCT t;cases !(z125 t) with
  | true=>exact Nat.zero_le _
  | false=>exact this
 have h2:(z68 t).1.length≤4*t.length:=by
  unfold z68;cases t.all z159 <;> simp <;> omega
 have h3:(z69 t).1.length≤4*t.length:=by
  unfold z69;cases decide (0≤z128 t) <;> simp <;> omega
 have h4:(z70 t).1.length≤4*t.length:=by
  have:=qIF t;omega
 unfold z31;cases (z65 cs==0) <;> cases z66 cs t <;> cases (cs==(5:Int)) <;> cases (cs==(3:Int)) <;> cases (cs==(4:Int)) <;> first | exact Nat.zero_le _ | assumption
structure PutI (name cs:LU) (i:Nat) (st:PutT):Prop where
 e:st.1=true→i=0
 n:st.2.2.length+(bif st.1 then 0 else 1)≤i
 l:st.2.1.length≤name.length+cs.length+100
 l0:st.1=true→st.2.1.length≤name.length+cs.length+7
theorem qdm (ret:List Bool→Bool→OA) (k0:List Bool→OA) (cs:LU) (ha:ascii cs=true) (hl:cs.length≤1048576):∀ (d i n:Nat) (a:List Bool),i+d=cs.length→d < n →
 qhs ret k0 n cs a (i:Nat)=k0 (setOf (cs.drop i) a)
 | d,i,0,a,hi,hn=>by omega
 | 0,i,n+1,a,hi,hn=>by
  show qee ret k0 (qhs ret k0 n) n cs a _=_;unfold qee;rw[yx (by omega),yd,yA (by omega)];rfl
 | d+1,i,n+1,a,hi,hn=>by
  show qee ret k0 (qhs ret k0 n) n cs a _=_;unfold qee;have hlt:i < cs.length:=by omega
  have hc:decide ((128:UInt8)≤getD cs i 0)=false:=by
   unfold ascii at ha;rw[List.all_eq_true] at ha;have:=ha (cs.getD i 0) (by simp[getD,hlt]);rw[decide_eq_false_iff_not];simp only[ym] at this;exact UInt8.not_le.2 this
  rw[qgf,yo hlt,yc,qK,y6,yc,qab,hc,yd,qK,qpn,y6,yc,qd (by omega),
   qdm ret k0 cs ha hl d (i+1) n _ (by omega) (by omega),qr (d:=0) hlt]
  rfl
theorem qIG:∀ (chars0:LU),(qeJ chars0=true)→∃ n,qBz n chars0=qjf (z167 chars0).1 (z167 chars0).2:=fun cs h=>⟨cs.length+1,by
 unfold qeJ at h;rw[yf] at h;exact qdm qjf (qmh (cs.length+1)) cs h.1 (qb h.2) cs.length 0 (cs.length+1) _ (by omega) (by omega)⟩
theorem qIH:∀ (as0:List Bool) (c1:UInt8),∃ n,qKS n as0 c1=qBy (z168 as0 c1):=fun as c=>⟨0,by
 unfold qKS;rw[qK,qpn];rfl⟩
theorem qII:∀ (s0:LU) (c1:UInt8),(qym s0 c1=true)→∃ n,qBE n s0 c1=qBD (z206 s0 c1):=fun _ _ h=>by cases h
theorem qpu (k0:LU→OA) (as:List Bool):∀ (d:Nat) (s:LU) (n:Nat),s.length=d→d < n→s.length≤1048576 →
 qjj k0 n s as=k0 (z208 s as)
 | d,s,0,hd,hn,hl=>by omega
 | d,s,n+1,hd,hn,hl=>by
  show qib k0 (qjj k0 n) n s as=_;unfold qib qaz z208;rcases List.eq_nil_or_concat s with rfl | ⟨t,x,rfl⟩
  ·rfl
  ·rw[List.concat_eq_append] at *
   have hlen:(t++[x]).length=t.length+1:=by simp
   have ih:=qpu k0 as t.length t n rfl (by omega) (by omega);have hg:(t++[x]).getD (toNat (((t++[x]).length:Int) - 1)) 0=x:=by
    rw[show toNat (((t++[x]).length:Int) - 1)=t.length by omega];simp
   have ht:take (toNat (((t++[x]).length:Int) - 1)) (t++[x])=t:=by
    rw[show toNat (((t++[x]).length:Int) - 1)=t.length by omega];simp
   simp (disch:=omega) only [wr,dT,yc,yi,hg,ht,qpo];cases z168 as x with
   | true=>simpa [z208] using ih
   | false=>rfl
theorem qIJ:∀ (s0:LU) (as1:List Bool),(qof s0 as1=true)→∃ n,qtY n s0 as1=qBD (z208 s0 as1):=fun s as h=>⟨s.length+1,by
 unfold qtY;rw[qpu _ as s.length s _ rfl (by omega) (qb h)];rfl⟩
theorem qIK:∀ (c0:UInt8),∃ n,qLa n c0=qmi (z154 c0):=fun c=>⟨0,by
 unfold qLa z154;cases decide ((65:UInt8)≤c) <;> cases decide (c≤(90:UInt8)) <;> rfl⟩
theorem qIL:∀ (a0:LU) (b1:LU),∃ n,qUC n a0 b1=qBy (z194 a0 b1):=fun _ _=>⟨0,rfl⟩
theorem qIM:∀ (c0:UInt8),∃ n,qLb n c0=qjk (z230 c0).1 (z230 c0).2:=fun c=>⟨0,by
 unfold qLb z230;have h:=(z154 c - 97).toNat_lt;rw[qCN,qCN,IntWalk.i64_in (((z154 c - 97).toNat:Int)+10) (by omega)];cases z144 (z154 c) 8 <;> cases decide ((97:UInt8)≤z154 c) <;> cases decide (z154 c≤(102:UInt8)) <;> rfl⟩
theorem qIN:∀ (a0:UInt8) (b1:UInt8),∃ n,qLc n a0 b1=qmj (z199 a0 b1).1 (z199 a0 b1).2:=fun a b=>⟨0,by
 unfold qLc z199;have h:=qCP (P:=fun x y=>ofNat (toNat (wrap .u8 (bits .or .i64 (wrap .i64 (x*2 ^ (min (toNat (4:Int)) (IntKind.bits .i64)))) y)))=ofNat (toNat (x*16+y))) qPt (qeC a) (qeC b);rw[← h];cases (z230 a).2 <;> cases (z230 b).2 <;> rfl⟩
theorem qIO:∀ (s0:LU) (at1:Int) (sign2:UInt8),(qtd s0 at1 sign2=true)→∃ n,qLd n s0 at1 sign2=qmj (z145 s0 at1 sign2).1 (z145 s0 at1 sign2).2:=fun s at1 sign h=>⟨0,by
 have hl:=qb h;unfold qLd qjm z145
 by_cases h0:at1 < 0
 ·rw[yo h0,yx (show ¬ 0≤at1 by omega)];rfl
 by_cases h1:wrap .i64 (((length s:Nat):Int) - 3) < at1
 ·have h2:¬ at1≤(s.length:Int) - 3:=by rw[IntWalk.i64_in _ (by omega)] at h1;omega
  rw[yx h0,yo h1,yx h2,Bool.and_false];rfl
 obtain⟨i,rfl,hi⟩:=qkY s at1 hl h0 h1;rw[yx h0,yx h1,yd,yd,qK,qgf,yo (show i < s.length by omega),yi,yc,qab,qd (by omega),
  show wrap .i64 ((i:Int)+2)=((i+2:Nat):Int) by rw[IntWalk.i64_in _ (by omega)];omega,qK,qK,qgf,qgf,yo (show i+1 < s.length by omega),yo hi,qab,qab,
  yo (show (i:Int)≤(s.length:Int) - 3 by omega),yi,yc]
 unfold qvK;cases he:(getD s i 0==sign) with
 | true=>rw[show (getD s i 0 != sign)=false by simp only[bne,he,Bool.not_true]];rfl
 | false=>rw[show (getD s i 0 != sign)=true by simp only[bne,he,Bool.not_false]];rfl⟩
theorem qIP:∀ (s0:LU) (suffix1:LU),(qts s0 suffix1=true)→∃ n,qKV n s0 suffix1=qBy (z215 s0 suffix1):=fun s t h=>⟨0,by
 have hl:=qb h;unfold qKV z215
 by_cases hc:t.length≤s.length
 ·have e:wrap .i64 ((s.length:Int) - (t.length:Int))=((s.length - t.length:Nat):Int):=by rw[IntWalk.i64_in _ (by omega)];omega
  rw[e,tn,tn,List.take_length,dT hc];simp (disch:=omega) only [dT,yc,yi];rfl
 ·rw[dF hc,dF (by omega)];rfl⟩
theorem qPG:∀ (b0:LU) (c1:UInt8),∃ n,qXq n b0 c1=qKR (z80 b0 c1):=fun _ _=>⟨0,rfl⟩
theorem qCX (m:Nat) (s:LU) (hl:s.length≤1048576):∀ (d i n:Nat),i+d=s.length→d < n →
 qws (qrJ m) n ((s.take i).map (fun c:UInt8=>(c.toNat:Int))++replicate (s.length - i) 0) s (s.length:Nat) (i:Nat)=qBP (s.map fun c:UInt8=>(c.toNat:Int))
 | d,i,0,hi,hn=>by omega
 | 0,i,n+1,hi,hn=>by
  obtain rfl:i=s.length:=by omega
  show qgz _ _ n _ _ _ _=_;unfold qgz;rw[dF (by omega),Nat.sub_self,List.take_length];simp only[yd,List.replicate_zero,yG];rfl
 | d+1,i,n+1,hi,hn=>by
  show qgz _ _ n _ _ _ _=_;unfold qgz;have hlen:((s.take i).map (fun c:UInt8=>(c.toNat:Int))++replicate (s.length - i) (0:Int)).length=s.length:=by
   rw[yn,yP,yz,yQ];omega
  rw[hlen];simp (disch:=omega) only [dT,yc,yi,tn,qd];rw[qhh,qCQ (fun c:UInt8=>((UInt8.toNat c:Nat):Int)) s 0 i (by omega) 0];exact qCX m s hl d (i+1) n (by omega) (by omega)
theorem qPH:∀ (s0:LU),(qvN s0=true)→∃ n,qHK n s0=qBP (z59 s0):=fun s h=>⟨s.length+1,by
 have hl:=qb h;unfold qHK;have hr:((s.length:Nat):Int)≤(room:Int):=by unfold room;omega
 simp (disch:=omega) only [dT,yc,yi,tn];have:=qCX (s.length+1) s hl s.length 0 (s.length+1) (by omega) (by omega);exact this⟩
theorem qIQ:∀ (c0:Int),∃ n,qLg n c0=qrK (z114 c0):=fun c=>⟨0,by
 unfold qLg z114;cases decide (128≤c) <;> rfl⟩
theorem qpv (m:Nat) (t:LI) (hl:t.length≤1048576):∀ (d i n:Nat),i+d=t.length→d < n →
 qwt (qrL m) n ((t.take i).map z114++t.drop i) (t.length:Nat) (i:Nat)=qBP (t.map z114)
 | d,i,0,hi,hn=>by omega
 | 0,i,n+1,hi,hn=>by
  obtain rfl:i=t.length:=by omega
  show qgA _ _ n _ _ _=_;unfold qgA;rw[dF (by omega),List.drop_length,List.take_length,yG];rfl
 | d+1,i,n+1,hi,hn=>by
  show qgA _ _ n _ _ _=_;unfold qgA;have hlt:i < t.length:=by omega
  have hml:((t.take i).map z114).length=i:=by rw[yP,yz];omega
  have hlen:((t.take i).map z114++t.drop i).length=t.length:=by
   rw[yn,hml,yK];omega
  rw[hlen];simp (disch:=omega) only [dT,yc,yi,tn,qd];have hg:((t.take i).map z114++t.drop i).getD i 0=t[i]:=by
   rw[yY,yN (by omega),hml,Nat.sub_self,List.getElem?_drop,Nat.add_zero,yO hlt];rfl
  have hs:((t.take i).map z114++t.drop i).set i (z114 t[i])=(t.take (i+1)).map z114++t.drop (i+1):=by
   rw[List.set_append_right _ _ (by omega),hml,Nat.sub_self,List.drop_eq_getElem_cons hlt,List.set_cons_zero,List.take_succ_eq_append_getElem hlt,List.map_append,yl];rfl
  rw[hg,hs];exact qpv m t hl d (i+1) n (by omega) (by omega)
theorem qPI:∀ (s0:LU),(qET s0=true)→∃ n,qHL n s0=qBP (z55 s0):=fun s h=>⟨s.length+1,by
 have hl:=qb h;unfold qHL;rw[show qvN s=true from h];have hlen:(z59 s).length=s.length:=by unfold z59;rw[yP]
 have:=qpv (s.length+1) (z59 s) (by omega) s.length 0 (s.length+1) (by omega) (by omega);have e:(z59 s).map z114=z55 s:=by
  unfold z59 z55;rw[List.map_map];rfl
 rw[e] at this;exact this⟩
theorem qIR:∀ (x0:UInt8),∃ n,qud n x0=qrK (z115 x0):=fun x=>⟨9,by
 have e:qud 9 x=bif (164:UInt8)==x then qrK 8364 else bif (166:UInt8)==x then qrK 352 else bif (168:UInt8)==x then qrK 353 else bif (180:UInt8)==x then qrK 381
  else bif (184:UInt8)==x then qrK 382 else bif (188:UInt8)==x then qrK 338 else bif (189:UInt8)==x then qrK 339 else bif (190:UInt8)==x then qrK 376 else qrK (wrap .i32 ((UInt8.toNat x:Nat):Int)):=by rfl
 rw[e,qhh];unfold z115 z90;have hc:∀ k:UInt8,(k==x)=(x==k):=fun k=>by
  cases h:x==k with
  | true=>rw[beq_iff_eq] at h;subst h;simp
  | false=>rw[yB] at h ⊢;exact fun e=>h e.symm
 simp only[hc];cases (x==(164:UInt8)) <;> cases (x==(166:UInt8)) <;> cases (x==(168:UInt8)) <;> cases (x==(180:UInt8)) <;> cases (x==(184:UInt8)) <;> cases (x==(188:UInt8)) <;> cases (x==(189:UInt8)) <;> cases (x==(190:UInt8)) <;> rfl⟩
theorem qPJ:∀ (s0:LU),(qER s0=true)→∃ n,qHM n s0=qBP (z56 s0):=fun s h=>⟨s.length+1,by
 have hl:=qb h;unfold qHM;have:=qdV (t:=s) (dv:=0) (f:=fun c=>[z115 c]) (q:=fun _=>true) (b:=1) (k0:=qml (s.length+1)) (R:=none)
  (L:=fun n out i=>qwu (qml (s.length+1)) n out s (s.length:Nat) i) (fun x=>yv 1) (fun n i out hi hb=>by
   show qgB _ _ n _ _ _ _=_;unfold qgB;have hr:out.length+([z115 (s.getD i 0)]:LI).length≤room:=hb;simp (disch:=omega) only [dT,yc,yi,tn,qd];all_goals (rw[dT hr])
   all_goals rfl) (fun n out=>by
   show qgB _ _ n _ _ _ _=_;unfold qgB;rw[dF (by omega)];rfl) s.length 0 (s.length+1) [] (by omega) (by omega) (by show 0+_≤room;unfold room;omega)
 rw[yw,qne,yc,List.nil_append,qnd] at this;exact this⟩
theorem qPK:∀ (s0:LU),(qES s0=true)→∃ n,qHN n s0=qBP (z57 s0):=fun s h=>⟨s.length+1,by
 have hl:=qb h;unfold qHN;have hr:((s.length:Nat):Int)≤(room:Int):=by unfold room;omega
 have:=qdV (t:=s) (dv:=0) (f:=fun c=>[z116 c]) (q:=fun _=>true) (b:=1) (k0:=qmm (s.length+1)) (R:=none)
  (L:=fun n out i=>qwv (qmm (s.length+1)) n out s (s.length:Nat) i) (fun x=>yv 1) (fun n i out hi hb=>by
   show qgC _ _ n _ _ _ _=_;unfold qgC;have hr:out.length+([z116 (s.getD i 0)]:LI).length≤room:=hb;simp (disch:=omega) only [dT,yc,yi,tn,qd];all_goals (rw[dT hr])
   all_goals rfl) (fun n out=>by
   show qgC _ _ n _ _ _ _=_;unfold qgC;rw[dF (by omega)];rfl) s.length 0 (s.length+1) [] (by omega) (by omega) (by show 0+_≤room;unfold room;omega)
 rw[yw,qne,yc,List.nil_append,qnd] at this;simp (disch:=omega) only [dT,yc,yi];exact this⟩
theorem qPL:∀ (charset0:Int) (s1:LU),(qob charset0 s1=true)→∃ n,qUM n charset0 s1=qBS (z29 charset0 s1):=fun cs s h=>⟨0,by
 have h':lenOk s=true:=h;unfold qUM z29;rw[show qET s=true from h',show qER s=true from h',show qES s=true from h',show qEQ s=true from h',show qvN s=true from h'];cases (cs==(1:Int)) <;> cases (cs==(3:Int)) <;> cases (cs==(4:Int)) <;> cases (cs==(5:Int)) <;> rfl⟩
theorem qIS:∀ (c0:UInt8),∃ n,qLm n c0=qKR (z218 c0):=fun c=>⟨0,by
 unfold qLm z218 qc;cases decide (c < 128) <;> cases decide (c < 194) <;> cases decide (244 < c) <;> cases decide (c < 224) <;> cases decide (c < 240) <;> rfl⟩
theorem qIT:∀ (first0:UInt8) (c1:UInt8),∃ n,qLo n first0 c1=qBy (z238 first0 c1):=fun f c=>⟨0,by
 unfold qLo z238;cases (f==224) <;> cases (f==237) <;> cases (f==240) <;> cases (f==244) <;> cases decide (160≤c) <;> cases decide (c < 160) <;> cases decide (144≤c) <;> cases decide (c < 144) <;> rfl⟩
theorem qCY (m:Nat) (x:UInt8) (r:LU) (hl:r.length≤1048576):∀ (d i n:Nat),qc x=i+d→1≤i→i≤r.length+1→d < n →
 qjq qKR (qaP m) n (x :: r) (i:Nat)=qKR ((i+runB x d (i==1) (r.drop (i - 1)):Nat):Int)
 | d,i,0,_,_,_,hn=>by omega
 | 0,i,n+1,hs,hi,hr,hn=>by
  show qco _ _ _ n _ _=_;unfold qco;have e0:z218 (getD (x :: r) (toNat 0) 0)=((qc x:Nat):Int):=rfl;have h0:decide ((0:Int) < (((x :: r).length:Nat):Int))=true:=dT (by simp only[yg];omega);rw[e0,h0,dF (show ¬ ((i:Nat):Int) < ((qc x:Nat):Int) by omega)];have hr0:runB x 0 (i==1) (r.drop (i - 1))=0:=by cases r.drop (i - 1) <;> rfl
  rw[hr0];show qaP m (x :: r) ((i:Nat):Int)=_;unfold qaP;rw[e0,h0];show qKR (bif decide (((qc x:Nat):Int) < ((i:Nat):Int)) then _ else _)=_;rw[dF (by omega)];rfl
 | d+1,i,n+1,hs,hi,hr,hn=>by
  show qco _ _ _ n _ _=_;unfold qco;have e0:z218 (getD (x :: r) (toNat 0) 0)=((qc x:Nat):Int):=rfl;have h0:decide ((0:Int) < (((x :: r).length:Nat):Int))=true:=dT (by simp only[yg];omega);rw[e0,h0,dT (show ((i:Nat):Int) < ((qc x:Nat):Int) by omega)];simp only[yc,yi,show decide ((0:Int)≤0)=true from rfl]
  by_cases hlt:i < (x :: r).length
  ·have hlt':i - 1 < r.length:=by simp only[yg] at hlt;omega
   obtain⟨y,hy⟩:∃ y,r.getD (i - 1) 0=y:=⟨_,rfl⟩;have hg:(x :: r).getD i 0=y:=by
    obtain⟨k,rfl⟩:∃ k,i=k+1:=⟨i - 1,by omega⟩;exact hy
   have hdr:r.drop (i - 1)=y :: r.drop i:=by
    have:=qbD hlt';rw[this,hy,show i - 1+1=i by omega]
   rw[dT (show ((i:Nat):Int) < (((x :: r).length:Nat):Int) by omega),dT (show (0:Int)≤((i:Nat):Int) by omega),tn,hg,hdr];simp only[yc,yi];have hrun:runB x (d+1) (i==1) (y :: r.drop i)=bif z237 y&&(!(i==1)||z238 x y) then runB x d false (r.drop i)+1 else 0:=rfl
   have ih:=qCY m x r hl d (i+1) n (by omega) (by omega) (by simp only[yg] at hlt;omega) (by omega);rw[show i+1 - 1=i by omega,show (i+1==1)=false by simp;omega] at ih;rw[hrun];cases hf:z237 y with
   | false=>simp only[Bool.not_false,yc,Bool.false_and,yd,Nat.add_zero]
   | true =>
    simp only[Bool.not_true,yd,y6];have hfin:qjq qKR (qaP m) n (x :: r) (wrap .i64 (((i:Nat):Int)+1))=qKR ((i+(runB x d false (r.drop i)+1):Nat):Int):=by
     rw[qd (by omega),ih,show i+1+runB x d false (r.drop i)=i+(runB x d false (r.drop i)+1) by omega]
    by_cases h1:i=1
    ·subst h1;rw[show (((1:Nat):Int)==1)=true from rfl,show ((1:Nat)==1)=true from rfl,yc,dT (show (1:Int) < (((x :: r).length:Nat):Int) by omega)];simp only[show decide ((0:Int)≤1)=true from rfl,yi,yc];have e1:getD (x :: r) (toNat 1) 0=y:=hg;have e2:getD (x :: r) (toNat 0) 0=x:=rfl;rw[e1,e2];cases hs2:z238 x y with
     | false=>rfl
     | true =>
      simp only[Bool.not_true,yd,Bool.false_or,yc];exact hfin
    ·rw[show (((i:Nat):Int)==1)=false by simp;omega,show (i==1)=false by simpa using h1];simp only[yd,Bool.not_false,Bool.true_or,yc];exact hfin
  ·have hi2:i=r.length+1:=by simp only[yg] at hlt;omega
   rw[dF (show ¬ ((i:Nat):Int) < (((x :: r).length:Nat):Int) by omega),yd,yA (by omega)];show qaP m (x :: r) ((i:Nat):Int)=qKR ((i+0:Nat):Int);unfold qaP;rw[e0,h0];show qKR (bif decide (((qc x:Nat):Int) < ((i:Nat):Int)) then _ else _)=_;rw[dF (by omega)];rfl
theorem qIU:∀ (s0:LU),(qkv s0=true)→∃ n,que n s0=qKR (z217 s0):=fun s h=>⟨6,by
 unfold qkv at h;rw[yf] at h;have hl:=qb h.1;match s,h.2 with
 | x :: r,_ =>
  simp only[yg] at hl;have h4:=qin x;have ef:z217 (x :: r)=((bif qc x==0 then 0 else 1+runB x (qc x - 1) true r:Nat):Int):=rfl;unfold que;rw[ef]
  by_cases h0:qc x=0
  ·rw[show (qc x==0)=true by simpa using h0,yc];have e0:z218 (getD (x :: r) (toNat 0) 0)=((qc x:Nat):Int):=rfl;have h0':decide ((0:Int) < (((x :: r).length:Nat):Int))=true:=dT (by simp only[yg];omega);show qco qKR (qaP 6) _ 5 (x :: r) 1=_;unfold qco;rw[e0,h0',dF (show ¬ (1:Int) < ((qc x:Nat):Int) by omega)];show qaP 6 (x :: r) 1=_;unfold qaP;rw[e0,h0'];show qKR (bif decide (((qc x:Nat):Int) < (1:Int)) then ((qc x:Nat):Int) else _)=_;rw[dT (by omega),h0];rfl
  ·rw[show (qc x==0)=false by simpa using h0,yd];have:=qCY 6 x r (by omega) (qc x - 1) 1 6 (by omega) (yv 1) (by omega) (by omega);rw[show (1:Nat) - 1=0 from rfl,yw] at this;exact this⟩
theorem qIV:∀ (c0:Int) (e1:Int) (x2:LI),(qtt c0 e1 x2=true)→∃ n,qBT n c0 e1 x2=qrM (z118 c0 e1 x2):=fun c e t h=>⟨0,by
 have hl:t.length≤2097152:=of_decide_eq_true h;unfold qBT z118;have hr:∀ y:Int,t.length+([y]:LI).length≤room:=fun y=>by show t.length+1≤room;unfold room;omega
 rw[dT (hr 65533),dT (hr c)];cases (e != 0) <;> rfl⟩
theorem qPM:∀ (s0:LU),(qEQ s0=true)→∃ n,qPi n s0=qBS (z58 s0):=fun s h=>⟨0,by
 unfold qPi;have hok:qcB s []=true:=by unfold qcB;rw[show lenOk s=true from h];rfl
 first
  | (rw[hok];rfl)
  | rfl⟩
theorem qCZ (ret:Bool→OA) (a b:LI) (hab:a.length=b.length) (hl:a.length≤1048576):∀ (d i n:Nat),i+d=a.length→d < n →
 qpd ret (ret true) n a b (i:Nat)=ret (decide (a.drop i=b.drop i))
 | d,i,0,hi,hn=>by omega
 | 0,i,n+1,hi,hn=>by
  show qgP ret (ret true) (qpd ret (ret true) n) n a b _=_;unfold qgP;rw[yx (by omega),yd,yA (by omega),yA (by omega)];rfl
 | d+1,i,n+1,hi,hn=>by
  show qgP ret (ret true) (qpd ret (ret true) n) n a b _=_;unfold qgP;have hlt:i < a.length:=by omega
  have hlt':i < b.length:=by omega
  have ih:=qCZ ret a b hab hl d (i+1) n (by omega) (by omega);simp (disch:=omega) only [dT,yc,yi,tn,qd];rw[ih,qnc hlt hlt' 0];cases (a.getD i 0 != b.getD i 0) <;> rfl
theorem qPN:∀ (a0:LI) (b1:LI),(qqo a0 b1=true)→∃ n,qHY n a0 b1=qBy (z11 a0 b1):=fun a b h=>⟨a.length+1,by
 unfold qHY z11
 by_cases hab:a.length=b.length
 ·rw[show (((a.length:Nat):Int) != ((b.length:Nat):Int))=false by simp[hab],yd];exact qCZ qBy a b hab (qb h) a.length 0 (a.length+1) (by omega) (by omega)
 ·rw[show (((a.length:Nat):Int) != ((b.length:Nat):Int))=true by simp only[bne_iff_ne,ne_eq];omega,yc,yx (fun e=>hab (by rw[e]))]⟩
theorem qPO:∀ (s0:LU) (sep1:LU),(qvO s0 sep1=true)→∃ n,qUO n s0 sep1=qBX (z82 s0 sep1).1 (z82 s0 sep1).2.1 (z82 s0 sep1).2.2:=fun s sep h=>⟨0,by
 have h0:=h;unfold qvO at h;rw[yf] at h;have hl:=qb h.1;have hl2:=qb (yf _ _ ▸ h.2).1;unfold qUO z82 z143;rw[show qiW s sep=true from h0]
 by_cases h1:0≤Lib.index s sep
 ·have hr:=Lib.index_room s sep h1;have e:wrap .i64 (Lib.index s sep+((sep.length:Nat):Int))=Lib.index s sep+((sep.length:Nat):Int):=IntWalk.i64_in _ (by omega);rw[e,yo h1,yo (show (0:Int)≤((0:Nat):Int) by omega),yo (show ((0:Nat):Int)≤Lib.index s sep by omega),yo (show Lib.index s sep≤((s.length:Nat):Int) by omega),
   yo (show (0:Int)≤Lib.index s sep+((sep.length:Nat):Int) by omega),yo (show Lib.index s sep+((sep.length:Nat):Int)≤((s.length:Nat):Int) by omega),yo (Int.le_refl ((s.length:Nat):Int)),qab,qab,List.take_length,
   show toNat (Lib.index s sep+((sep.length:Nat):Int))=(Lib.index s sep).toNat+sep.length by omega]
  rfl
 ·rw[yx h1];rfl⟩
theorem qIW:∀ (s0:LU) (suffix1:LU),(qtw s0 suffix1=true)→∃ n,qKW n s0 suffix1=qrG (z173 s0 suffix1).1 (z173 s0 suffix1).2:=fun s t h=>⟨0,by
 have hl:=qb h;unfold qKW z173;rw[show qts s t=true from h]
 by_cases hc:t.length≤s.length
 ·have e:wrap .i64 ((s.length:Int) - (t.length:Int))=((s.length - t.length:Nat):Int):=by rw[IntWalk.i64_in _ (by omega)];omega
  rw[e,tn];simp (disch:=omega) only [dT,yc,yi];cases z215 s t <;> rfl
 ·have e:z215 s t=false:=by unfold z215;rw[dF hc];rfl
  rw[e];rfl⟩
def qPP (x:UInt8):Bool:=decide (x < 128)||(decide (160≤x)||((decide ((0:Int)≤((UInt8.toNat (x - (128:UInt8)):Nat):Int)))&&(decide (((UInt8.toNat (x - (128:UInt8)):Nat):Int) < (length z177:Nat))) &&
 ((bif ((getD z177 (toNat ((UInt8.toNat (x - (128:UInt8)):Nat):Int)) (0:Int)) != (0:Int)) then (getD z177 (toNat ((UInt8.toNat (x - (128:UInt8)):Nat):Int)) (0:Int)) else 65533)==z91 x)))
theorem qDa:∀ i:Fin 256,qPP (ofNat i.val)=true:=by decide +kernel
theorem qIX:∀ (x0:UInt8),∃ n,qLj n x0=qrK (z116 x0):=fun x=>⟨0,by
 have hm:=qcm (P:=fun x=>qPP x=true) qDa x;unfold qLj qdI z116;rw[qhh];cases h1:decide (x < (128:UInt8)) with
 | true=>unfold z91;rw[h1];rfl
 | false =>
  cases h2:decide ((160:UInt8)≤x) with
  | true =>
   have h3:decide ((159:UInt8) < x)=true:=by
    have h2':=of_decide_eq_true h2;apply yo;rw[UInt8.le_iff_toNat_le] at h2';rw[UInt8.lt_iff_toNat_lt];exact h2'
   unfold z91;rw[h1,h3];rfl
  | false =>
   unfold qPP at hm;rw[h1,h2,Bool.false_or,Bool.false_or,yf,beq_iff_eq] at hm;rw[yd,yd,hm.1,yc,← hm.2];cases ((getD z177 (toNat ((UInt8.toNat (x - (128:UInt8)):Nat):Int)) (0:Int)) != (0:Int)) <;> rfl⟩
theorem qpw:∀ i:Fin 256,(((ofNat i.val) &&& ~~~ (63:UInt8))==(128:UInt8))=z237 (ofNat i.val):=by decide +kernel
theorem qIY:∀ (c0:UInt8),∃ n,qLn n c0=qBy (z237 c0):=fun c=>⟨0,by
 unfold qLn;rw[qcm (P:=fun c=>((c &&& ~~~ (63:UInt8))==(128:UInt8))=z237 c) qpw c]⟩
theorem qMb:∀ (f:UInt8) (n:Nat) (one:Bool) (s:LU),runB f n one s≤n∧runB f n one s≤s.length
 | f,0,one,s=>by cases s <;> exact⟨yv _,Nat.zero_le _⟩
 | f,n+1,one,[]=>⟨Nat.zero_le _,Nat.zero_le _⟩
 | f,n+1,one,x :: r=>by
  have ih:=qMb f n false r;show (bif z237 x&&(!one||z238 f x) then runB f n false r+1 else 0)≤n+1∧(bif z237 x&&(!one||z238 f x) then runB f n false r+1 else 0)≤r.length+1;cases z237 x&&(!one||z238 f x)
  ·exact⟨Nat.zero_le _,Nat.zero_le _⟩
  ·simp only[yc];omega
theorem qPQ (a b:Nat) (hb:b < 64) (h:a*64+b < 2147483648):bits .or .i32 ((a*64:Nat):Int) (b:Int)=((a*64+b:Nat):Int):=by
 have h1:(BitVec.ofInt 32 ((a*64:Nat):Int)).toNat=a*64:=by rw[BitVec.toNat_ofInt];omega
 have h2:(BitVec.ofInt 32 ((b:Nat):Int)).toNat=b:=by rw[BitVec.toNat_ofInt];omega
 have h3:(BitVec.ofInt 32 ((a*64:Nat):Int) ||| BitVec.ofInt 32 (b:Int)).toNat=a*64+b:=by
  rw[BitVec.toNat_or,h1,h2];have:=Nat.shiftLeft_add_eq_or_of_lt (i:=6) hb a;rw[Nat.shiftLeft_eq] at this;exact this.symm
 show wrap .i32 (((BitVec.ofInt 32 ((a*64:Nat):Int) ||| BitVec.ofInt 32 (b:Int)).toNat:Nat):Int)=_;rw[h3,IntWalk.i32_in _ (by omega)]
def foldS (t:LU) (c:Int):Int:=t.foldl (fun c y=>c*64+((y &&& 63).toNat:Int)) c
theorem qDb:∀ i:Fin 256,((ofNat i.val) &&& (63:UInt8)).toNat < 64:=by decide +kernel
theorem low6 (y:UInt8):(y &&& 63).toNat < 64:=qcm (P:=fun y=>(y &&& 63).toNat < 64) qDb y
theorem qkZ (m:Nat) (t:LU) (n5:Int) (hl:t.length≤1048576):∀ (d i n b c:Nat),i+d=t.length→d < n→c < b→b*64 ^ d≤67108864 →
 qfb (qfP m) n n5 (c:Int) t (t.length:Nat) (i:Nat)=qcW (foldS (t.drop i) c) n5 0
 | d,i,0,b,c,hi,hn,_,_=>by omega
 | 0,i,n+1,b,c,hi,hn,_,_=>by
  obtain rfl:i=t.length:=by omega
  show qcF _ _ n _ _ _ _ _=_;unfold qcF;rw[dF (by omega),yd,List.drop_length];rfl
 | d+1,i,n+1,b,c,hi,hn,hc,hb=>by
  show qcF _ _ n _ _ _ _ _=_;unfold qcF;have hlt:i < t.length:=by omega
  have h64:0 < 64 ^ d:=Nat.pow_pos (by decide);have hb':b*64*64 ^ d≤67108864:=by rw[Nat.pow_succ] at hb;rwa[Nat.mul_assoc,Nat.mul_comm 64]
  have hb2:b*64≤b*64*64 ^ d:=Nat.le_mul_of_pos_right _ h64;have hy:=low6 (t.getD i 0);simp (disch:=omega) only [dT,yc,yi,tn];have e1:wrap .i32 ((c:Int)*2 ^ (min (toNat (6:Int)) (IntKind.bits .i32)))=((c*64:Nat):Int):=by
   show wrap .i32 ((c:Int)*64)=_;rw[IntWalk.i32_in _ (by omega)];omega
  rw[e1,IntWalk.i32_in _ (by omega),qPQ _ _ hy (by omega),qd (by omega),qkZ m t n5 hl d (i+1) n (b*64) _ (by omega) (by omega) (by omega) hb',qbD hlt];show _=qcW (foldS (t.drop (i+1)) ((c:Int)*64+(((t.getD i 0) &&& 63).toNat:Int))) n5 0;congr 2
theorem qDc:∀ i:Fin 256,∀ n:Fin 5,((ofNat i.val) &&& ~~~ (z185 ((n.val:Nat):Int)))=((ofNat i.val) &&& (255 ^^^ (z185 ((n.val:Nat):Int)))):=by decide +kernel
theorem qVw (x:UInt8) (n:Nat) (hn:n < 5):(x &&& ~~~ (z185 ((n:Nat):Int)))=(x &&& (255 ^^^ (z185 ((n:Nat):Int)))):=qcm (P:=fun x=>∀ n:Fin 5,(x &&& ~~~ (z185 ((n.val:Nat):Int)))=(x &&& (255 ^^^ (z185 ((n.val:Nat):Int))))) qDc x ⟨n,hn⟩
theorem qDd (x:UInt8) (r:LU):farN (x :: r)≤qc x∧farN (x :: r)≤r.length+1:=by
 show (bif qc x==0 then 0 else 1+runB x (qc x - 1) true r)≤_∧(bif qc x==0 then 0 else 1+runB x (qc x - 1) true r)≤_;have:=qMb x (qc x - 1) true r;cases h:qc x==0 with
 | true=>exact⟨Nat.zero_le _,Nat.zero_le _⟩
 | false =>
  rw[yB] at h;simp only[yd];omega
theorem qIZ:∀ (s0:LU),(qtp s0=true)→∃ n,quf n s0=qcW (z178 s0).1 (z178 s0).2.1 (z178 s0).2.2:=fun s h=>⟨s.length+5,by
 have hl:=qb h;match s with
 | []=>rfl
 | x :: r =>
  simp only[yg] at hl;have hf:=qDd x r;have h4:=qin x;obtain⟨N,hN⟩:∃ N,farN (x :: r)=N:=⟨_,rfl⟩;have eT:z178 (x :: r)=bif farN (x :: r)==0 then ((0:Int),((1:Int),(3:Int))) else bif decide (farN (x :: r) < qc x)&&(farN (x :: r)==(x :: r).length) then (0,(farN (x :: r):Nat),4)
   else bif decide (farN (x :: r) < qc x) then (0,(farN (x :: r):Nat),3) else (signN (farN (x :: r)) (x :: r),(farN (x :: r):Nat),0):=rfl
  have eF:z217 (x :: r)=(N:Int):=by rw[← hN];rfl
  have eS:z218 (getD (x :: r) (toNat 0) 0)=((qc x:Nat):Int):=rfl;have hok:qkv (x :: r)=true:=by
   unfold qkv;rw[qm (show (x :: r).length≤1048576 by simp only[yg];omega)];rfl
  have h0:decide ((0:Int) < (((x :: r).length:Nat):Int))=true:=dT (by simp only[yg];omega);have h00:((((x :: r).length:Nat):Int)==0)=false:=by rw[yB];simp only[yg];omega
  rw[eT,hN];rw[hN] at hf;unfold quf qfR qfQ qdJ qcG qbW;rw[eF,eS,hok,h0,h00];simp only[yi,yc,yd,show decide ((0:Int)≤0)=true from rfl]
  by_cases hz:N=0
  ·subst hz;rfl
  ·rw[show (((N:Nat):Int)==0)=false by rw[yB];omega,show (N==0)=false by simpa using hz];simp only[yd]
   by_cases hs:N < qc x
   ·rw[dT (show ((N:Nat):Int) < ((qc x:Nat):Int) by omega),yo hs];simp only[yc,y6]
    by_cases hlN:N=(x :: r).length
    ·rw[show (((N:Nat):Int)==(((x :: r).length:Nat):Int))=true by rw[beq_iff_eq];omega,show (N==(x :: r).length)=true by simpa using hlN];rfl
    ·rw[show (((N:Nat):Int)==(((x :: r).length:Nat):Int))=false by rw[yB];omega,show (N==(x :: r).length)=false by simpa using hlN];rfl
   ·rw[dF (show ¬ ((N:Nat):Int) < ((qc x:Nat):Int) by omega),yx hs];simp only[yd,Bool.false_and];rw[dT (show (1:Int)≤((N:Nat):Int) by omega),dT (show ((N:Nat):Int)≤(((x :: r).length:Nat):Int) by simp only[yg];omega)];simp only[show decide ((0:Int)≤1)=true from rfl,yi,yc,tn];have e1:drop (toNat 1) (take N (x :: r))=r.take (N - 1):=by
     obtain⟨k,rfl⟩:∃ k,N=k+1:=⟨N - 1,by omega⟩;rfl
    have e2:getD (x :: r) (toNat 0) 0=x:=rfl;rw[e1,e2,qVw x N (by omega)];have hx:=(x &&& (255 ^^^ z185 ((N:Nat):Int))).toNat_lt;have ht:(r.take (N - 1)).length=N - 1:=by rw[yz];omega
    rw[IntWalk.i32_in _ (by omega)];have:=qkZ ((x :: r).length+5) (r.take (N - 1)) (N:Int) (by omega) (r.take (N - 1)).length 0 ((x :: r).length+5) 256 _ (by omega) (by simp only[yg];omega) hx (by
     rw[ht];have:N - 1=0∨N - 1=1∨N - 1=2∨N - 1=3:=by omega
     rcases this with e | e | e | e <;> rw[e] <;> decide)
    rw[yw] at this;exact this⟩
theorem qMc (x:UInt8) (r:LU):(z178 (x :: r)).2.1=((z178 (x :: r)).2.1.toNat:Int)∧(z178 (x :: r)).2.1.toNat≤r.length+1:=by
 have hf:=qDd x r;show ((bif farN (x :: r)==0 then ((0:Int),((1:Int),(3:Int))) else bif decide (farN (x :: r) < qc x)&&(farN (x :: r)==(x :: r).length) then (0,(farN (x :: r):Nat),4)
  else bif decide (farN (x :: r) < qc x) then (0,(farN (x :: r):Nat),3) else (signN (farN (x :: r)) (x :: r),(farN (x :: r):Nat),0)).2.1=(((bif farN (x :: r)==0 then ((0:Int),((1:Int),(3:Int))) else bif decide (farN (x :: r) < qc x)&&(farN (x :: r)==(x :: r).length) then (0,(farN (x :: r):Nat),4)
  else bif decide (farN (x :: r) < qc x) then (0,(farN (x :: r):Nat),3) else (signN (farN (x :: r)) (x :: r),(farN (x :: r):Nat),0)).2.1.toNat:Nat):Int))∧(bif farN (x :: r)==0 then ((0:Int),((1:Int),(3:Int))) else bif decide (farN (x :: r) < qc x)&&(farN (x :: r)==(x :: r).length) then (0,(farN (x :: r):Nat),4)
  else bif decide (farN (x :: r) < qc x) then (0,(farN (x :: r):Nat),3) else (signN (farN (x :: r)) (x :: r),(farN (x :: r):Nat),0)).2.1.toNat≤r.length+1
 cases farN (x :: r)==0
 ·cases decide (farN (x :: r) < qc x)&&(farN (x :: r)==(x :: r).length)
  ·cases decide (farN (x :: r) < qc x)
   ·exact⟨rfl,hf.2⟩
   ·exact⟨rfl,hf.2⟩
  ·exact⟨rfl,hf.2⟩
 ·exact⟨rfl,by show 1≤_;omega⟩
theorem qDe (m:Nat):∀ (n k:Nat) (s:LU) (t:LI),s.length < n→s.length < k→s.length≤1048576→t.length+s.length≤2097152 →
 qbX (qcY m) n s t=qbb (t++utfR k s)
 | 0,k,s,t,hn,_,_,_=>by omega
 | n+1,0,s,t,_,hk,_,_=>by omega
 | n+1,k+1,[],t,_,_,_,_=>by
  show qbb t=qbb (t++[]);rw[yG]
 | n+1,k+1,x :: r,t,hn,hk,hl,ht=>by
  show qcX _ (qbX (qcY m) n) n _ _=_;unfold qcX;simp only[yg] at hn hk hl ht;obtain⟨e1,e2⟩:=qMc x r;have e3:=qql x r;rw[dT (show (0:Int) < (((x :: r).length:Nat):Int) by simp only[yg];omega),show qtp (x :: r)=true from qm (by simp only[yg];omega),
   show qtt (z178 (x :: r)).1 (z178 (x :: r)).2.2 t=true from yo (by omega)]
  generalize hw:(z178 (x :: r)).2.1.toNat=w at e1 e2 e3;rw[e1,dT (show (0:Int)≤(w:Int) by omega),dT (show (w:Int)≤(((x :: r).length:Nat):Int) by simp only[yg];omega),dT (Int.le_refl _)];simp only[yc,yi,tn,List.take_length];have hd:((x :: r).drop w).length≤r.length:=by rw[yK,yg];omega
  have hd2:((x :: r).drop w).length+1≤r.length+1:=by omega
  rw[qDe m n k ((x :: r).drop w) (z118 (z178 (x :: r)).1 (z178 (x :: r)).2.2 t) (by omega) (by omega) (by omega) (by unfold z118;rw[yn];show t.length+1+_≤_;omega)];show qbb _=qbb (t++((bif (z178 (x :: r)).2.2 != 0 then 65533 else (z178 (x :: r)).1) :: utfR k ((x :: r).drop (z178 (x :: r)).2.1.toNat)));rw[hw];unfold z118;rw[yl];rfl
theorem qsm:∀ (s0:LU) (f1:LI),(qcB s0 f1=true)→∃ n,qjr n s0 f1=qbb (qyk s0 f1):=fun s t h=>⟨s.length+1,by
 unfold qcB at h;rw[yf,ym] at h;have hl:=qb h.1;exact qDe (s.length+1) (s.length+1) (s.length+1) s t (by omega) (by omega) hl (by omega)⟩
theorem and15 (n:Int):bits .and .i64 n 15=n % 16:=by
 have h:(BitVec.ofInt 64 n &&& BitVec.ofInt 64 15).toNat=(n % 16).toNat:=by
  rw[BitVec.toNat_and];have h1:(BitVec.ofInt 64 15).toNat=2 ^ 4 - 1:=by decide
  rw[h1,Nat.and_two_pow_sub_one_eq_mod,BitVec.toNat_ofInt];omega
 show wrap .i64 (((BitVec.ofInt 64 n &&& BitVec.ofInt 64 15).toNat:Nat):Int)=_;rw[h,IntWalk.i64_in _ (by omega)];omega
theorem qJa:∀ (n0:Int),(qeI n0=true)→∃ n,qLv n n0=qmi (z239 n0):=fun n _=>⟨0,by
 unfold qLv z239;rw[and15];have h0:(0:Int)≤n % 16:=by omega
 have h1:n % 16 < (((([48,49,50,51,52,53,54,55,56,57,65,66,67,68,69,70]:LU).length:Nat)):Int):=by simp;omega
 rw[yo h0,yo h1];rfl⟩
theorem qDf:∀ i:Fin 256,z230 (ofNat i.val)=z202 (ofNat i.val):=by decide +kernel
theorem qVx (c:UInt8):z202 c=z230 c:=(qCO (P:=fun c=>z230 c=z202 c) qDf c).symm
theorem qJb:∀ a b:Fin 16,ofNat (toNat (wrap .u8 (wrap .i64 ((wrap .i64 ((16:Int)*((a.val:Nat):Int)))+((b.val:Nat):Int)))))=ofNat (toNat (((a.val:Nat):Int)*16+((b.val:Nat):Int))):=by decide +kernel
theorem qDg:∀ i:Fin 256,[z239 (wrap .i64 ((UInt8.toNat (ofNat (UInt8.toNat (ofNat i.val) / 2 ^ (min (toNat (4:Int)) 8))):Nat):Int)),z239 (wrap .i64 ((UInt8.toNat (ofNat i.val):Nat):Int))]=z219 (ofNat i.val):=by decide +kernel
theorem boths (c:UInt8):[z239 (wrap .i64 ((UInt8.toNat (ofNat (UInt8.toNat c / 2 ^ (min (toNat (4:Int)) 8))):Nat):Int)),z239 (wrap .i64 ((UInt8.toNat c:Nat):Int))]=z219 c:=qCO (P:=fun c=>[z239 (wrap .i64 ((UInt8.toNat (ofNat (UInt8.toNat c / 2 ^ (min (toNat (4:Int)) 8))):Nat):Int)),z239 (wrap .i64 ((UInt8.toNat c:Nat):Int))]=z219 c) qDg c
theorem qJc:∀ (c0:UInt8),∃ n,qLw n c0=qCc (z219 c0):=fun c=>⟨0,by
 obtain⟨_,_,h1,h2⟩:=qVp c;unfold qLw;rw[h1,h2,boths];rfl⟩
theorem qJd:∀ (b0:LU) (sign1:UInt8) (c2:UInt8),(qtf b0 sign1 c2=true)→∃ n,qLx n b0 sign1 c2=qCd (z179 b0 sign1 c2):=fun b sign c h=>⟨0,by
 have hl:=qb h;unfold qLx z179 qeK z153;rw[show lenOk b=true from h,yi,yc,yo (by unfold room;simp;omega),yc,yo (by unfold room z219;simp;omega),yc,yl];rfl⟩
theorem qsn {α:Type} {m:Nat} (hm:0 < m) (hm2:m≤100) {x:α} {k0:List α→OA} {L:Nat→List α→OA}
 (hL:∀ (n:Nat) (l:List α),l.length+1≤room→L (n+1) l=bif tmod ((l.length:Nat):Int) (m:Int) != 0 then L n (l++[x]) else k0 l) :
 ∀ (d n:Nat) (l:List α),qN l.length m=d→d < n→l.length+d+1≤room→L n l=k0 (l++replicate d x)
 | d,0,l,_,hn,_=>by omega
 | d,n+1,l,hd,hn,hr=>by
  have hlt:l.length % m < m:=Nat.mod_lt _ hm;have hdm:d < m:=by rw[← hd];exact Nat.mod_lt _ hm
  rw[hL n l (by omega),show tmod ((l.length:Nat):Int) (m:Int)=((l.length % m:Nat):Int) from rfl];unfold qN at hd
  by_cases h0:l.length % m=0
  ·rw[h0,Nat.sub_zero,Nat.mod_self] at hd;subst hd;rw[h0];simp
  ·rw[Nat.mod_eq_of_lt (by omega)] at hd;have h1:(((l.length % m:Nat):Int) != 0)=true:=bneT (by omega);rw[h1,yc];obtain⟨e,rfl⟩:∃ e,d=e+1:=⟨d - 1,by omega⟩;have h2:qN (l++[x]).length m=e:=by
    unfold qN;rw[yn,List.length_singleton,Nat.add_mod]
    by_cases hm1:m=1
    ·subst hm1;omega
    ·rw[Nat.mod_eq_of_lt (show 1 < m by omega)]
     by_cases h3:l.length % m+1=m
     ·rw[h3,Nat.mod_self,Nat.sub_zero,Nat.mod_self];omega
     ·rw[Nat.mod_eq_of_lt (show l.length % m+1 < m by omega),Nat.mod_eq_of_lt (by omega)];omega
   rw[qsn hm hm2 hL e n (l++[x]) h2 (by omega) (by rw[yn,List.length_singleton];omega),yl];rfl
theorem qDh {m n:Nat} (hm:0 < m):(n+qN n m) % m=0∧qN n m < m:=by
 unfold qN;have h:=Nat.mod_lt n hm;refine⟨?_,Nat.mod_lt _ hm⟩
 by_cases h0:n % m=0
 ·rw[h0,Nat.sub_zero,Nat.mod_self,Nat.add_zero,h0]
 ·rw[Nat.mod_eq_of_lt (show m - n % m < m by omega),Nat.add_mod,Nat.mod_eq_of_lt (show m - n % m < m by omega),show n % m+(m - n % m)=m by omega,Nat.mod_self]
theorem qso:∀ s:LU,(z190 s).length=8*s.length
 | []=>rfl
 | c :: r=>by
  have h:=qso r;unfold z190 at h ⊢;rw[List.flatMap_cons,yn,h];simp only[qcA,yg,List.length_nil];omega
theorem quN:∀ (n:Nat) (l:LI),(sixes n l).length=n
 | 0,_=>rfl
 | n+1,l=>by
  unfold sixes;rw[yg,quN n]
theorem qDi (s:LU):(z138 s).length=(8*s.length+qN (8*s.length) 6) / 6:=by
 unfold z138;rw[quN];unfold padTo;rw[yn,yQ,qso]
theorem and63 (n:Int):bits .and .i64 n 63=n % 64:=by
 have h:(BitVec.ofInt 64 n &&& BitVec.ofInt 64 63).toNat=(n % 64).toNat:=by
  rw[BitVec.toNat_and];have h1:(BitVec.ofInt 64 63).toNat=2 ^ 6 - 1:=by decide
  rw[h1,Nat.and_two_pow_sub_one_eq_mod,BitVec.toNat_ofInt];omega
 show wrap .i64 (((BitVec.ofInt 64 n &&& BitVec.ofInt 64 63).toNat:Nat):Int)=_;rw[h,IntWalk.i64_in _ (by omega)];omega
theorem qVy (a b k:Nat) (hb:b < 2 ^ k) (h:a*2 ^ k+b < 9223372036854775808):bits .or .i64 ((a*2 ^ k:Nat):Int) (b:Int)=((a*2 ^ k+b:Nat):Int):=by
 have h1:(BitVec.ofInt 64 ((a*2 ^ k:Nat):Int)).toNat=a*2 ^ k:=by rw[BitVec.toNat_ofInt];omega
 have h2:(BitVec.ofInt 64 ((b:Nat):Int)).toNat=b:=by rw[BitVec.toNat_ofInt];omega
 have h3:(BitVec.ofInt 64 ((a*2 ^ k:Nat):Int) ||| BitVec.ofInt 64 (b:Int)).toNat=a*2 ^ k+b:=by
  rw[BitVec.toNat_or,h1,h2];have:=Nat.shiftLeft_add_eq_or_of_lt hb a;rw[Nat.shiftLeft_eq] at this;exact this.symm
 show wrap .i64 (((BitVec.ofInt 64 ((a*2 ^ k:Nat):Int) ||| BitVec.ofInt 64 (b:Int)).toNat:Nat):Int)=_;rw[h3,IntWalk.i64_in _ (by omega)]
theorem qla (n k:Nat) (hn:n < 9223372036854775808) (hk:2 ^ k≤4611686018427387904):bits .and .i64 (n:Int) ((2 ^ k - 1:Nat):Int)=((n % 2 ^ k:Nat):Int):=by
 have hpos:0 < 2 ^ k:=Nat.pow_pos (by decide);have h1:(BitVec.ofInt 64 (n:Int)).toNat=n:=by rw[BitVec.toNat_ofInt];omega
 have h2:(BitVec.ofInt 64 ((2 ^ k - 1:Nat):Int)).toNat=2 ^ k - 1:=by rw[BitVec.toNat_ofInt];omega
 have h3:(BitVec.ofInt 64 (n:Int) &&& BitVec.ofInt 64 ((2 ^ k - 1:Nat):Int)).toNat=n % 2 ^ k:=by
  rw[BitVec.toNat_and,h1,h2,Nat.and_two_pow_sub_one_eq_mod]
 have h4:n % 2 ^ k < 2 ^ k:=Nat.mod_lt _ hpos;show wrap .i64 (((BitVec.ofInt 64 (n:Int) &&& BitVec.ofInt 64 ((2 ^ k - 1:Nat):Int)).toNat:Nat):Int)=_;rw[h3,IntWalk.i64_in _ (by omega)]
theorem fdivN (n k:Nat):Int.fdiv (n:Int) ((k:Nat):Int)=((n / k:Nat):Int):=by
 rw[Int.fdiv_eq_ediv_of_nonneg _ (Int.natCast_nonneg k),Int.natCast_ediv]
theorem held8 (h x:Nat) (hh:h < 16) (hx:x < 256):bits .or .i64 (wrap .i64 ((h:Int)*2 ^ (min (toNat (8:Int)) (IntKind.bits .i64)))) (wrap .i64 (x:Int))=((h*256+x:Nat):Int):=by
 have e:wrap .i64 ((h:Int)*2 ^ (min (toNat (8:Int)) (IntKind.bits .i64)))=((h*2 ^ 8:Nat):Int):=by
  show wrap .i64 ((h:Int)*256)=_;rw[IntWalk.i64_in _ (by omega)];omega
 rw[e,IntWalk.i64_in _ (by omega),qVy h x 8 (by omega) (by omega)]
theorem qPR (m h x:Nat):(encD m h x).length≤2:=by
 unfold encD;cases m==4
 ·exact Nat.le_succ 1
 ·exact yv 2
theorem qJe:∀ i:Fin 256,(decide (0≤(z175 (ofNat i.val)).1)&&decide ((z175 (ofNat i.val)).1 < 64))=true:=by decide +kernel
theorem qMd (c:UInt8):∃ n:Nat,(z175 c).1=(n:Int)∧n < 64:=by
 have h:=qcm (P:=fun c=>(decide (0≤(z175 c).1)&&decide ((z175 c).1 < 64))=true) qJe c;simp only[yf,ym] at h;exact⟨(z175 c).1.toNat,by omega,by omega⟩
theorem qPS:∀ i:Fin 256,z144 (ofNat i.val) 2=blank (ofNat i.val):=by decide +kernel
theorem qXy (c:UInt8):z144 c 2=blank c:=qVo (P:=fun c=>z144 c 2=blank c) qPS c
theorem qcp (c:UInt8) (r:LU):digB (c :: r)=bif c==61 then [] else bif isB64 c then c :: digB r else digB r:=by
 unfold digB;rw[List.takeWhile_cons];cases h:c==61 with
 | true =>
  have:(c != 61)=false:=by rw[bne,h];rfl
  rw[this];rfl
 | false =>
  have:(c != 61)=true:=by rw[bne,h];rfl
  rw[this,if_pos rfl,yd,List.filter_cons];cases isB64 c <;> rfl
theorem qwI:∀ i:Fin 256,(!(z237 (ofNat i.val))||decide ((ofNat i.val).toNat=((ofNat i.val) &&& (63:UInt8)).toNat+128))=true:=by decide +kernel
theorem low6f {y:UInt8} (h:z237 y=true):y.toNat=(y &&& 63).toNat+128:=by
 have k:=qcm (P:=fun y=>(!(z237 y)||decide (y.toNat=(y &&& (63:UInt8)).toNat+128))=true) qwI y;rw[h,Bool.not_true,Bool.false_or,ym] at k;exact k
theorem qDj:∀ i:Fin 256,((bif decide ((ofNat i.val) < (128:UInt8)) then (1:Int) else bif decide ((194:UInt8)≤(ofNat i.val))&&decide ((ofNat i.val)≤(223:UInt8)) then 2 else bif decide ((224:UInt8)≤(ofNat i.val))&&decide ((ofNat i.val)≤(239:UInt8)) then 3
 else bif decide ((240:UInt8)≤(ofNat i.val))&&decide ((ofNat i.val)≤(244:UInt8)) then 4 else 0)==z218 (ofNat i.val))=true:=by decide +kernel
def inR (a b y:UInt8):Bool := !(decide (y < a)) && !(decide (b < y))
theorem qkl:∀ i:Fin 256,inR 128 191 (ofNat i.val)=z237 (ofNat i.val):=by decide +kernel
theorem quO (y:UInt8):inR 128 191 y=z237 y:=qcm (P:=fun y=>inR 128 191 y=z237 y) qkl y
theorem in_a:∀ i:Fin 256,inR 160 191 (ofNat i.val)=(z237 (ofNat i.val)&&(decide ((160:UInt8)≤(ofNat i.val))&&z237 (ofNat i.val))):=by decide +kernel
theorem in_b:∀ i:Fin 256,inR 128 159 (ofNat i.val)=(z237 (ofNat i.val)&&(decide ((ofNat i.val) < (160:UInt8))&&z237 (ofNat i.val))):=by decide +kernel
theorem in_c:∀ i:Fin 256,inR 144 191 (ofNat i.val)=(z237 (ofNat i.val)&&(decide ((144:UInt8)≤(ofNat i.val))&&z237 (ofNat i.val))):=by decide +kernel
theorem in_d:∀ i:Fin 256,inR 128 143 (ofNat i.val)=(z237 (ofNat i.val)&&(decide ((ofNat i.val) < (144:UInt8))&&z237 (ofNat i.val))):=by decide +kernel
theorem qJf (x y:UInt8):inR (z232 x).1 (z232 x).2 y=(z237 y&&z238 x y):=by
 unfold z232 z238;cases (x==(224:UInt8))
 ·cases (x==(237:UInt8))
  ·cases (x==(240:UInt8))
   ·cases (x==(244:UInt8))
    ·show inR 128 191 y=_;rw[quO];cases z237 y <;> rfl
    ·exact qcm (P:=fun y=>inR 128 143 y=(z237 y&&(decide (y < (144:UInt8))&&z237 y))) in_d y
   ·exact qcm (P:=fun y=>inR 144 191 y=(z237 y&&(decide ((144:UInt8)≤y)&&z237 y))) in_c y
  ·exact qcm (P:=fun y=>inR 128 159 y=(z237 y&&(decide (y < (160:UInt8))&&z237 y))) in_b y
 ·exact qcm (P:=fun y=>inR 160 191 y=(z237 y&&(decide ((160:UInt8)≤y)&&z237 y))) in_a y
theorem quP {α:Type} (a b y:UInt8) (p q:α):(bif decide (y < a) then p else bif decide (b < y) then p else q)=bif inR a b y then q else p:=by
 unfold inR;cases decide (y < a) <;> cases decide (b < y) <;> rfl
theorem qDk:∀ (f:UInt8) (n:Nat) (one:Bool) (s:LU),runB f n one s=n→(s.take n).all z237=true
 | f,0,one,s,_=>by cases s <;> rfl
 | f,n+1,one,[],h=>by cases h
 | f,n+1,one,x :: r,h=>by
  have h':(bif z237 x&&(!one||z238 f x) then runB f n false r+1 else 0)=n+1:=h;cases hc:z237 x&&(!one||z238 f x) with
  | false=>rw[hc] at h';cases h'
  | true =>
   rw[hc,yc] at h';rw[yf] at hc;rw[List.take_succ_cons,List.all_cons,hc.1,qDk f n false r (by omega)];rfl
theorem qwJ:∀ i:Fin 256,(qc (ofNat i.val)==0||(((ofNat i.val).toNat:Int) - getD ([(0:Int),(0:Int),(192:Int),(224:Int),(240:Int)]:LI) (qc (ofNat i.val)) 0==((((ofNat i.val) &&& (255 ^^^ (z185 ((qc (ofNat i.val):Nat):Int)))).toNat:Nat):Int)))=true:=by decide +kernel
def qjT (cs:Int) (c:UInt8):Int:=bif cs==1 then z114 (c.toNat:Int) else bif cs==3 then z90 c else bif cs==4 then z91 c else (c.toNat:Int)
theorem u127 (c:UInt8):decide ((127:UInt8) < c)=decide ((128:Int)≤(c.toNat:Int)):=by
 by_cases h:(127:UInt8) < c
 ·rw[yo h];rw[UInt8.lt_iff_toNat_lt] at h;exact(yo (by have:(127:UInt8).toNat=127:=rfl;omega)).symm
 ·rw[yx h];rw[UInt8.lt_iff_toNat_lt] at h;exact(yx (by have:(127:UInt8).toNat=127:=rfl;omega)).symm
def valF:Nat→Nat→UInt8→Int×Bool
 | 0,_,_=>(0,false)
 | d+1,n,c=>bif z191 (n:Int)==c then ((n:Int),true) else valF d (n+1) c
theorem qPT:∀ i:Fin 256,(valF 64 0 (ofNat i.val)==z175 (ofNat i.val))=true:=by decide +kernel
theorem qJg:∀ i:Fin 64,([tmod (Int.fdiv (i.val:Int) (2 ^ 5)) 2,tmod (Int.fdiv (i.val:Int) (2 ^ 4)) 2,tmod (Int.fdiv (i.val:Int) (2 ^ 3)) 2,tmod (Int.fdiv (i.val:Int) (2 ^ 2)) 2,tmod (Int.fdiv (i.val:Int) (2 ^ 1)) 2,tmod (Int.fdiv (i.val:Int) (2 ^ 0)) 2]:LI)=qbo (i.val:Int):=by decide +kernel
theorem qJh:∀ (c0:Int),∃ n,qLE n c0=qBy (z211 c0):=fun c=>⟨0,by
 unfold qLE z211;cases decide ((55296:Int)≤c) <;> rfl⟩
theorem qJi:∀ (c0:Int),∃ n,qLF n c0=qBy (z161 c0):=fun c=>⟨0,by
 unfold qLF z161;cases decide (wrap .u32 c≤1114111) <;> rfl⟩
theorem qJj:∀ (c0:Int),∃ n,qUX n c0=qBy (z224 c0):=fun _=>⟨0,rfl⟩
theorem qJk:∀ (s0:LI) (v1:Int),(qth s0 v1=true)→∃ n,qun n s0 v1=qKR (z186 s0 v1):=fun t v h=>⟨t.length+1,by
 have hl:=qb (l:=t) h;unfold qun z186;refine qhi (qdf (L:=fun n i=>qkF qKR (qmq (t.length+1)) n t v ((t.length:Nat):Int) i) hl (fun n i hi=>?_) (fun n=>?_) t.length 0 (t.length+1) (by omega) (by omega)) rfl
 ·show qek _ _ _ n _ _ _ _=_;unfold qek;simp (disch:=omega) only [dT,yc,yi,tn,qd];cases (v==t.getD i 0) <;> rfl
 ·show qek _ _ _ n _ _ _ _=_;unfold qek;rw[dF (by omega)];rfl⟩
theorem qJl:∀ (t:LI),(qtm t=true)→∃ n,qur n t=qKR (z128 t):=fun t h=>⟨t.length+1,by
 have hl:=qb (l:=t) h;unfold qur z128;refine qhi (qdf (L:=fun n i=>qkJ qKR (qmv (t.length+1)) n t ((t.length:Nat):Int) i) hl (fun n i hi=>?_) (fun n=>?_) t.length 0 (t.length+1) (by omega) (by omega)) rfl
 ·show qen _ _ _ n _ _ _=_;unfold qen;simp (disch:=omega) only [dT,yc,yi,tn,qd];cases z160 (t.getD i 0) <;> rfl
 ·show qen _ _ _ n _ _ _=_;unfold qen;rw[dF (by omega)];rfl⟩
theorem qJm:∀ (t:LI),(qtn t=true)→∃ n,qus n t=qKR (z130 t):=fun t h=>⟨t.length+1,by
 have hl:=qb (l:=t) h;unfold qus z130;refine qhi (qdf (L:=fun n i=>qkK qKR (qmx (t.length+1)) n t ((t.length:Nat):Int) i) hl (fun n i hi=>?_) (fun n=>?_) t.length 0 (t.length+1) (by omega) (by omega)) rfl
 ·show qeo _ _ _ n _ _ _=_;unfold qeo;simp (disch:=omega) only [dT,yc,yi,tn,qd];cases z158 (t.getD i 0) <;> rfl
 ·show qeo _ _ _ n _ _ _=_;unfold qeo;rw[dF (by omega)];rfl⟩
theorem qJn:∀ (cs:Int) (t:LI),(qto cs t=true)→∃ n,qup n cs t=qKR (z124 cs t):=fun cs t h=>⟨t.length+1,by
 have hl:=qb (l:=t) h;unfold qup z124;refine qhi (qdf (L:=fun n i=>qkG qKR (qmr (t.length+1)) n cs t ((t.length:Nat):Int) i) hl (fun n i hi=>?_) (fun n=>?_) t.length 0 (t.length+1) (by omega) (by omega)) rfl
 ·show qel _ _ _ n _ _ _ _=_;unfold qel;simp (disch:=omega) only [dT,yc,yi,tn,qd];cases z105 cs (t.getD i 0) <;> rfl
 ·show qel _ _ _ n _ _ _ _=_;unfold qel;rw[dF (by omega)];rfl⟩
theorem qJo:∀ (t0:LI),(qtj t0=true)→∃ n,qLH n t0=qKR (z183 t0):=fun t h=>⟨0,by
 unfold qLH;rw[show qti t=true from h];rfl⟩
theorem qJp:∀ (t0:LI),(qtk t0=true)→∃ n,qLI n t0=qBy (z125 t0):=fun t h=>⟨0,by
 unfold qLI;rw[show qtj t=true from h];rfl⟩
theorem qJq:∀ (c0:Int),∃ n,qLJ n c0=qKR (z184 c0):=fun c=>⟨0,by
 unfold qLJ z184;cases z161 c <;> cases decide (c < (128:Int)) <;> cases decide (c < (2048:Int)) <;> cases decide (c < (65536:Int)) <;> rfl⟩
theorem qJr:∀ (b0:LU) (c1:Int),(qtl b0 c1=true)→∃ n,qLK n b0 c1=qBM (z126 b0 c1).1 (z126 b0 c1).2:=fun b c h=>⟨0,by
 have hl:=qb (l:=b) h;unfold qLK qag qca qdQ qbZ qjy z126;rw[show qeK b=true from h,show z153 b=b from rfl];have hr:∀ (l m:LU),l.length≤1048580→m.length≤10→decide (l.length+m.length≤room)=true:=fun l m h1 h2=>dT (by unfold room;omega);rcases qpq c with e | e | e | e | e <;> rw[e]
 ·rfl
 ·rw[hr b _ (by omega) (by simp)];rfl
 ·simp only[show ((2:Int)==0)=false from rfl,show ((2:Int)==4)=false from rfl,show ((2:Int)==3)=false from rfl,show ((2:Int)==2)=true from rfl,yd,yc];rw[hr b _ (by omega) (by simp),hr (b++_) _ (by simp;omega) (by simp)];simp only[yl];rfl
 ·simp only[show ((3:Int)==0)=false from rfl,show ((3:Int)==4)=false from rfl,show ((3:Int)==3)=true from rfl,yd,yc];rw[hr b _ (by omega) (by simp),hr (b++_) _ (by simp;omega) (by simp),hr (b++_++_) _ (by simp;omega) (by simp)];simp only[yl];rfl
 ·simp only[show ((4:Int)==0)=false from rfl,show ((4:Int)==4)=true from rfl,yd,yc];rw[hr b _ (by omega) (by simp),hr (b++_) _ (by simp;omega) (by simp),hr (b++_++_) _ (by simp;omega) (by simp),hr (b++_++_++_) _ (by simp;omega) (by simp)];simp only[yl];rfl⟩
theorem qDl {β:Type} (ret:UInt8→Bool→β) (b:Bool) (x y:UInt8×Bool):ret (bif b then x else y).1 (bif b then x else y).2=bif b then ret x.1 x.2 else ret y.1 y.2:=by cases b <;> rfl
theorem qJs:∀ (c0:Int),∃ n,qCh n c0=qmj (z127 c0).1 (z127 c0).2:=fun c=>⟨9,by
 unfold z127;simp only[qDl];rw[show (bif decide (c < 0)||decide (256≤c) then qmj (0,false).1 (0,false).2 else qmj (oct8 c,true).1 (oct8 c,true).2)=qif 9 c from by
  unfold qif;cases decide (c < (0:Int)) <;> cases decide ((256:Int)≤c) <;> rfl]
 rfl⟩
theorem qJt:∀ (c0:Int),∃ n,qUU n c0=qBy (z159 c0):=fun _=>⟨0,rfl⟩
theorem qJu:∀ (c0:Int),∃ n,qLD n c0=qmj (z129 c0).1 (z129 c0).2:=fun c=>⟨0,by
 unfold qLD qcK qcJ qcI z129;rw[show qth z177 c=true from by show lenOk z177=true;decide];have h1:decide (0≤c)=false→decide (c < 256)=true:=by simp;omega
 have h2:decide (c < 128)=true→decide (c < 256)=true:=by simp;omega
 have h3:decide (160≤c)=true→decide (0≤c)=true:=by simp;omega
 have h4:decide (160≤c)=true→decide (c < 128)=false:=by simp;omega
 have h5:decide (160≤c)=false→decide (c < 256)=true:=by simp;omega
 simp only[qDl];revert h1 h2 h3 h4 h5;cases decide ((0:Int)≤c) <;> cases decide (c < (128:Int)) <;> cases decide ((160:Int)≤c) <;> cases decide (c < (256:Int)) <;> cases decide (z186 z177 c < (0:Int)) <;> intro h1 h2 h3 h4 h5 <;> first | rfl | (exfalso;revert h1 h2 h3 h4 h5;decide)⟩
theorem qJv:∀ (c0:Int),∃ n,qUV n c0=qBy (z160 c0):=fun _=>⟨0,rfl⟩
theorem qJw:∀ (c0:Int),∃ n,qUT n c0=qBy (z158 c0):=fun _=>⟨0,rfl⟩
theorem qDm (k0:LU→OA) (t:LI) (hl:t.length≤1048576):∀ (d i n:Nat),i+d=t.length→d < n →
 qpa k0 n ((t.take i).map (fun c=>ofNat (toNat (wrap .u8 c)))++replicate (t.length - i) 0) t (t.length:Nat) (i:Nat)=k0 (t.map fun c=>ofNat (toNat (wrap .u8 c)))
 | d,i,0,hi,hn=>by omega
 | 0,i,n+1,hi,hn=>by
  show qgL k0 (qpa k0 n) n _ t _ _=_;unfold qgL;obtain rfl:i=t.length:=by omega
  rw[yx (by omega),yd,List.take_length,Nat.sub_self];simp
 | d+1,i,n+1,hi,hn=>by
  show qgL k0 (qpa k0 n) n _ t _ _=_;unfold qgL;have hlt:i < t.length:=by omega
  have hl2:((t.take i).map (fun c=>ofNat (toNat (wrap .u8 c)))++replicate (t.length - i) (0:UInt8)).length=t.length:=by simp;omega
  have ih:=qDm k0 t hl d (i+1) n (by omega) (by omega);rw[qgf,yo hlt,yc,qK,y6,yc,y6,qgf,hl2,yo hlt,yc,qd (by omega),qab,
   qCQ (fun c=>ofNat (toNat (wrap .u8 c))) t 0 i hlt 0]
  exact ih
theorem qPU:∀ (t0:LI),(qEK t0=true)→∃ n,qHU n t0=qBM (z70 t0).1 (z70 t0).2:=fun t h=>⟨t.length+1,by
 have hl:=qb h;unfold qHU z70;rw[show qtn t=true from h,yi,yc];cases z130 t != -1 with
 | true=>rfl
 | false =>
  have:=qDm (qmy (t.length+1)) t hl t.length 0 (t.length+1) (by omega) (by omega);rw[yd,yd,qK,yo (Int.le_refl _),yo (by unfold room;omega)];unfold qmy at this ⊢;simpa using this⟩
theorem qJx:∀ (charset0:Int) (c1:Int),∃ n,qLG n charset0 c1=qBy (z105 charset0 c1):=fun cs c=>⟨0,by
 unfold qLG z105;cases (cs==(1:Int)) <;> cases (cs==(2:Int)) <;> cases (cs==(3:Int)) <;> cases (cs==(4:Int)) <;> cases (cs==(5:Int)) <;> cases decide ((0:Int)≤c) <;> rfl⟩
theorem qPV:∀ (charset0:Int),∃ n,qUS n charset0=qKR (z65 charset0):=fun cs=>⟨0,by
 unfold qUS z65
 by_cases h:cs=2
 ·subst h;rfl
 ·rw[beqF h];cases (cs==(1:Int)) <;> cases (cs==(3:Int)) <;> cases (cs==(4:Int)) <;> cases (cs==(5:Int)) <;> rfl⟩
theorem qPW:∀ (charset0:Int) (t1:LI),(qEO charset0 t1=true)→∃ n,qUW n charset0 t1=qBy (z66 charset0 t1):=fun cs t h=>⟨0,by
 unfold qUW z66;rw[show qto cs t=true from h];cases decide (0 < z65 cs) <;> rfl⟩
theorem qPX:∀ (t0:LI),(qEL t0=true)→∃ n,qHS n t0=qBM (z68 t0).1 (z68 t0).2:=fun t h=>⟨t.length+1,by
 have hl:=qb (l:=t) h;unfold qHS z68;have:=qdV (t:=t) (dv:=0) (f:=fun c=>[(z127 c).1]) (q:=z159) (b:=1) (k0:=qmu (t.length+1)) (R:=qBM [] 9)
  (L:=fun n out i=>qwy qBM (qmu (t.length+1)) n out t ((t.length:Nat):Int) i) (fun x=>by simp) (fun n i out hi hb=>by
   show qgJ _ _ _ n _ _ _ _=_;unfold qgJ;simp (disch:=omega) only [dT,yc,yi,tn,qd,yg,List.length_nil,yE];show (bif !(z159 (t.getD i 0)) then _ else _)=_;cases z159 (t.getD i 0) <;> rfl) (fun n out=>by
   show qgJ _ _ _ n _ _ _ _=_;unfold qgJ;rw[dF (by omega)];rfl) t.length 0 (t.length+1) [] (by omega) (by omega) (by unfold room;simp;omega)
 refine this.trans ?_;rw[yw,qbj];cases t.all z159 <;> rfl⟩
theorem qPY:∀ (t0:LI),(qEM t0=true)→∃ n,qHT n t0=qBM (z69 t0).1 (z69 t0).2:=fun t h=>⟨t.length+1,by
 have hl:=qb (l:=t) h;unfold qHT z69;rw[show qtm t=true from h];cases decide (0≤z128 t) with
 | true=>rfl
 | false =>
  have:=qdV (t:=t) (dv:=0) (f:=fun c=>[(z129 c).1]) (q:=fun _=>true) (b:=1) (k0:=qmw (t.length+1)) (R:=none)
   (L:=fun n out i=>qwz (qmw (t.length+1)) n out t ((t.length:Nat):Int) i) (fun x=>by simp) (fun n i out hi hb=>by
    show qgK _ _ n _ _ _ _=_;unfold qgK;simp (disch:=omega) only [dT,yc,yi,tn,qd,yg,List.length_nil,yE]) (fun n out=>by
    show qgK _ _ n _ _ _ _=_;unfold qgK;rw[dF (by omega)];rfl) t.length 0 (t.length+1) [] (by omega) (by omega) (by unfold room;simp;omega)
  simp (disch:=(first | omega | (unfold room;omega))) only [dT,yc,yd,yi];refine this.trans ?_;rw[yw,qbj,List.all_eq_true.2 (fun _ _=>rfl)];rfl⟩
theorem qPZ:∀ (t0:LI),(qEN t0=true)→∃ n,qHR n t0=qBM (z67 t0).1 (z67 t0).2:=fun t h=>⟨t.length+1,by
 have hl:=qb (l:=t) h;unfold qHR z67;rw[show qtk t=true from h];cases !(z125 t) with
 | true=>rfl
 | false =>
  have:=qdV (t:=t) (dv:=0) (f:=fun c=>(z126 [] c).1) (q:=fun _=>true) (b:=4) (k0:=qmt (t.length+1)) (R:=none)
   (L:=fun n out i=>qwx (qmt (t.length+1)) n out t ((t.length:Nat):Int) i) qCT (fun n i out hi hb=>by
    show qgI _ _ n _ _ _ _=_;unfold qgI;have hp:=qCT (t.getD i 0);rw[show qtl ([]:LU) (t.getD (toNat (i:Int)) 0)=true from rfl];simp (disch:=omega) only [dT,yc,yi,tn,qd]) (fun n out=>by
    show qgI _ _ n _ _ _ _=_;unfold qgI;rw[dF (by omega)];rfl) t.length 0 (t.length+1) [] (by omega) (by omega) (by unfold room;simp;omega)
  simp only[yc,yd,yi];refine this.trans ?_;rw[yw,List.all_eq_true.2 (fun _ _=>rfl)];rfl⟩
theorem qQa:∀ (charset0:Int) (t1:LI),(qvL charset0 t1=true)→∃ n,qUY n charset0 t1=qBM (z31 charset0 t1).1 (z31 charset0 t1).2:=fun cs t h=>⟨0,by
 unfold qUY z31;rw[show qEO cs t=true from h,show qEN t=true from h,show qEL t=true from h,show qEM t=true from h,show qEK t=true from h];cases (z65 cs==0) <;> cases z66 cs t <;> cases (cs==(5:Int)) <;> cases (cs==(3:Int)) <;> cases (cs==(4:Int)) <;> rfl⟩
theorem qJy:∀ (x0:Int),(qta x0=true)→∃ n,qLL n x0=qKR (z106 x0):=fun x h=>⟨0,by
 unfold qLL;rw[show qye x=true from h];rfl⟩
theorem qQb:∀ (sets0:Int),(qEA sets0=true)→∃ n,qVa n sets0=qKR (z50 sets0):=fun s h=>⟨0,by
 have h':=of_decide_eq_true h;unfold qVa z50;cases (s==0) with
 | true=>rfl
 | false =>
  have hw:wrap .u64 s=s:=by
   exact IntWalk.u64_in s (by omega)
  rw[hw,show qta s=true from yo (by omega)];rfl⟩
theorem qQc:∀ a b c d e:Bool,(bif e then bits .or .i64 (bif d then bits .or .i64 (bif c then bits .or .i64 (bif b then bits .or .i64 (bif a then bits .or .i64 0 2 else 0) 4 else (bif a then bits .or .i64 0 2 else 0)) 8 else (bif b then bits .or .i64 (bif a then bits .or .i64 0 2 else 0) 4 else (bif a then bits .or .i64 0 2 else 0))) 16 else (bif c then bits .or .i64 (bif b then bits .or .i64 (bif a then bits .or .i64 0 2 else 0) 4 else (bif a then bits .or .i64 0 2 else 0)) 8 else (bif b then bits .or .i64 (bif a then bits .or .i64 0 2 else 0) 4 else (bif a then bits .or .i64 0 2 else 0)))) 32 else
 (bif d then bits .or .i64 (bif c then bits .or .i64 (bif b then bits .or .i64 (bif a then bits .or .i64 0 2 else 0) 4 else (bif a then bits .or .i64 0 2 else 0)) 8 else (bif b then bits .or .i64 (bif a then bits .or .i64 0 2 else 0) 4 else (bif a then bits .or .i64 0 2 else 0))) 16 else (bif c then bits .or .i64 (bif b then bits .or .i64 (bif a then bits .or .i64 0 2 else 0) 4 else (bif a then bits .or .i64 0 2 else 0)) 8 else (bif b then bits .or .i64 (bif a then bits .or .i64 0 2 else 0) 4 else (bif a then bits .or .i64 0 2 else 0)))))=maskB a b c d e:=by decide +kernel
theorem qVz:∀ a b c d e a' b' c' d' e':Bool,bits .and .i64 (maskB a b c d e) (maskB a' b' c' d' e')=maskB (a&&a') (b&&b') (c&&c') (d&&d') (e&&e'):=by decide +kernel
theorem qVA:∀ a b c d e:Bool,z50 (maskB a b c d e)=bif a then 1 else bif b then 2 else bif c then 3 else bif d then 4 else bif e then 5 else 0:=by decide +kernel
theorem qQd:∀ a b c d e:Bool,(maskB a b c d e==0) = !(a||b||c||d||e):=by decide +kernel
theorem qXz:∀ a b c d e:Bool,0≤maskB a b c d e∧maskB a b c d e < 64:=by decide +kernel
theorem qQe:∀ (c0:Int),∃ n,qHV n c0=qKR (z49 c0):=fun c=>⟨6,by
 have w:∀ i:Nat,i < 10→wrap .i64 ((i:Int)+1)=((i+1:Nat):Int):=fun i h=>qd (by omega);have step:∀ (k i:Nat) (s:Int),i < 5→qpb (qjC 6) (k+1) c s (i:Int)=qpb (qjC 6) k c (bif z105 ((i+1:Nat):Int) c then bits .or .i64 s (wrap .i64 ((1:Int)*2 ^ (min (i+1) (IntKind.bits .i64)))) else s) ((i+1:Nat):Int):=fun k i s hi=>by
  show qgM _ _ k _ _ _=_;unfold qgM;rw[dT (show (i:Int) < 5 by omega),w i (by omega)];cases z105 ((i+1:Nat):Int) c with
  | true =>
   rw[dT (show (0:Int)≤((i+1:Nat):Int) by omega),tn];rfl
  | false=>rfl
 have last:∀ (k:Nat) (s:Int),qpb (qjC 6) (k+1) c s (5:Nat)=qKR s:=fun k s=>by
  show qgM _ _ k _ _ _=_;unfold qgM;rw[dF (by omega)];rfl
 unfold qHV z49 maskF;rw[show (0:Int)=((0:Nat):Int) from rfl,step 5 0 _ (by omega),step 4 1 _ (by omega),step 3 2 _ (by omega),step 2 3 _ (by omega),step 1 4 _ (by omega),last 0];simp only[];rw[← qQc (z105 1 c) (z105 2 c) (z105 3 c) (z105 4 c) (z105 5 c)];rfl⟩
def quQ (t:LI) (a b c d e:Bool):Int:=maskB (a&&t.all (z105 1)) (b&&t.all (z105 2)) (c&&t.all (z105 3)) (d&&t.all (z105 4)) (e&&t.all (z105 5))
theorem qlb (t:LI) (hl:t.length≤1048576):∀ (d i n:Nat) (a b c x e:Bool),i+d=t.length→d < n →
 qwA (qjD (t.length+1)) n (maskB a b c x e) t ((t.length:Nat):Int) (i:Int)=qjD (t.length+1) (quQ (t.drop i) a b c x e)
 | d,i,0,a,b,c,x,e,hi,hn=>by omega
 | 0,i,n+1,a,b,c,x,e,hi,hn=>by
  obtain rfl:i=t.length:=by omega
  show qgN _ _ n _ _ _ _=_;unfold qgN;rw[dF (by omega),yA (yv _)];simp[quQ]
 | d+1,i,n+1,a,b,c,x,e,hi,hn=>by
  have hlt:i < t.length:=by omega
  show qgN _ _ n _ _ _ _=_;unfold qgN;simp (disch:=omega) only [dT,yc,yi,tn,qd];unfold z49 maskF;rw[qVz,qlb t hl d (i+1) n _ _ _ _ _ (by omega) (by omega),qr (d:=(0:Int)) hlt];unfold quQ;simp only[List.all_cons,Bool.and_assoc]
theorem qQf:∀ (t0:LI),(qEB t0=true)→∃ n,qHW n t0=qCu (z24 t0).1 (z24 t0).2:=fun t h=>⟨t.length+1,by
 have hl:=qb (l:=t) h;unfold qHW;have h0:=qlb t hl t.length 0 (t.length+1) true true true true true (by omega) (by omega);rw[show maskB true true true true true=62 from rfl] at h0;refine h0.trans ?_;unfold quQ qjD z24 selF qqj;simp only[y6,yw];rw[qQd,qVA,show ∀ z,0≤z∧z < 64→qEA z=true from fun z hz=>yo hz]
 ·cases t.all (z105 1) <;> cases t.all (z105 2) <;> cases t.all (z105 3) <;> cases t.all (z105 4) <;> cases t.all (z105 5) <;> rfl
 ·exact qXz _ _ _ _ _⟩
theorem quR (ret:Int→Bool→OA) (k0:OA) (hk:k0=ret 0 false) (c:UInt8):∀ (d:Nat) (i:Int) (n:Nat),i+d=16→0≤i→d < n →
 qhE ret k0 n c i=ret (qqn d i c).1 (qqn d i c).2
 | d,i,0,hi,h0,hn=>by omega
 | 0,i,n+1,hi,h0,hn=>by
  show qeu ret k0 (qhE ret k0 n) n c i=_;unfold qeu;rw[yx (by omega),yd,hk];rfl
 | d+1,i,n+1,hi,h0,hn=>by
  show qeu ret k0 (qhE ret k0 n) n c i=_;unfold qeu;have hok:qcl i=true:=by unfold qcl;rw[ym];omega
  rw[yo (by omega),yc,hok,IntWalk.i64_in (i+1) (by omega),quR ret k0 hk c d (i+1) n (by omega) (by omega) (by omega)];show _=ret (bif z189 i==c then (i,true) else bif decide ((10:Int)≤i)&&(z189 i+32==c) then (i,true) else qqn d (i+1) c).1 (bif z189 i==c then (i,true) else bif decide ((10:Int)≤i)&&(z189 i+32==c) then (i,true) else qqn d (i+1) c).2;generalize qqn d (i+1) c=z;cases z189 i==c <;> cases decide ((10:Int)≤i) <;> cases z189 i+32==c <;> rfl
theorem qJz:∀ (c0:UInt8),∃ n,qCF n c0=qjk (z202 c0).1 (z202 c0).2:=fun c=>⟨17,quR qjk (qmO 17) rfl c 16 0 17 (by omega) (by omega) (by omega)⟩
theorem qJA:∀ (s0:LU) (at1:Int) (sign2:UInt8),(qte s0 at1 sign2=true)→∃ n,qLW n s0 at1 sign2=qmj (z149 s0 at1 sign2).1 (z149 s0 at1 sign2).2:=fun s at1 sign h=>⟨0,by
 have hl:=qb h;unfold qLW z149 z145
 by_cases h0:at1 < 0
 ·rw[yo h0,yx (show ¬ 0≤at1 by omega)];rfl
 by_cases h1:wrap .i64 (((length s:Nat):Int) - 3) < at1
 ·have h2:¬ at1≤(s.length:Int) - 3:=by rw[IntWalk.i64_in _ (by omega)] at h1;omega
  rw[yx h0,yo h1,yx h2,Bool.and_false];rfl
 obtain⟨i,rfl,hi⟩:=qkY s at1 hl h0 h1;rw[yx h0,yx h1,yd,yd,qK,qgf,yo (show i < s.length by omega),yi,yc,qab,qd (by omega),
  show wrap .i64 ((i:Int)+2)=((i+2:Nat):Int) by rw[IntWalk.i64_in _ (by omega)];omega,qK,qK,qgf,qgf,yo (show i+1 < s.length by omega),yo hi,qab,qab,
  yo (show (i:Int)≤(s.length:Int) - 3 by omega),yi,yc]
 rw[qVx,qVx];have h:=qCP (P:=fun x y=>ofNat (toNat (wrap .u8 (wrap .i64 ((wrap .i64 ((16:Int)*x))+y))))=ofNat (toNat (x*16+y))) qJb (qeC (getD s (i+1) 0)) (qeC (getD s (i+2) 0));rw[h];unfold qvK z199;cases he:(getD s i 0==sign) with
 | true =>
  rw[show (getD s i 0 != sign)=false by simp only[bne,he,Bool.not_true]];cases (z230 (getD s (i+1) 0)).2 <;> cases (z230 (getD s (i+2) 0)).2 <;> rfl
 | false=>rw[show (getD s i 0 != sign)=true by simp only[bne,he,Bool.not_false]];rfl⟩
theorem qJB:∀ (n0:Int),∃ n,qLR n n0=qmi (z191 n0):=fun n=>⟨0,by
 unfold qLR qbq z191;generalize tmod (wrap .i64 (tmod n 64+64)) 64=k;show _=qmi (bif decide (k < 26) then _ else _);cases decide (k < 26) <;> cases decide (k < 52) <;> cases decide (k < 62) <;> cases (k==62) <;> rfl⟩
theorem qlc (k0:Int→OA) (l:LI) (hl:l.length≤1048576):∀ (d i n:Nat) (m:Int),i+d=l.length→d < n →
 qkQ k0 n l m (i:Nat)=k0 ((l.drop i).foldl (fun n b=>wrap .i64 (wrap .i64 (2*n)+b)) m)
 | d,i,0,m,hi,hn=>by omega
 | 0,i,n+1,m,hi,hn=>by
  show qeq _ _ n _ _ _=_;unfold qeq;rw[dF (by omega),yd,yA (by omega)];rfl
 | d+1,i,n+1,m,hi,hn=>by
  show qeq _ _ n _ _ _=_;unfold qeq;have hlt:i < l.length:=by omega
  rw[qr (d:=(0:Int)) hlt];simp (disch:=omega) only [dT,yc,yi,tn,qd];rw[qlc k0 l hl d (i+1) n _ (by omega) (by omega)];rfl
theorem qJC:∀ (l0:LI),(qdk l0=true)→∃ n,quz n l0=qKR (z151 l0):=fun l h=>⟨l.length+1,by
 unfold qdk at h;have hl:l.length≤1048576:=by simpa using h
 unfold quz z151;refine(qlc (qmH (l.length+1)) l hl l.length 0 (l.length+1) 0 (by omega) (by omega)).trans ?_;rw[yw];rfl⟩
theorem qDn (k2:LU→LI→Int→OA) (s:LU) (i:Nat) (hi:i < s.length) (n:Nat) (hn:8 < n) (out:LI) (hb:out.length+8≤room) :
 qhA k2 n s out (i:Nat) 7=k2 s (out++qcA (s.getD i 0)) (i:Nat):=by
 obtain⟨m,rfl⟩:∃ m,n=m+9:=⟨n - 9,by omega⟩;have step:∀ (n k:Nat) (out:LI),k≤7→out.length+1≤room→qhA k2 (n+1) s out (i:Nat) ((k:Nat):Int)=qhA k2 n s (out++[bit8 (s.getD i 0) k]) (i:Nat) ((k:Int) - 1):=fun n k out hk hr=>by
  show qer _ _ n _ _ _ _=_;unfold qer qda bit8;simp (disch:=(first | omega | (simp;omega))) only [dT,yc,yi,tn];rw[IntWalk.i64_in ((k:Int) - 1) (by omega)]
 rw[show (7:Int)=((7:Nat):Int) from rfl,step _ 7 _ (by omega) (by omega),show (((7:Nat):Int) - 1)=((6:Nat):Int) from rfl,
  step _ 6 _ (by omega) (by simp;omega),show (((6:Nat):Int) - 1)=((5:Nat):Int) from rfl,step _ 5 _ (by omega) (by simp;omega),show (((5:Nat):Int) - 1)=((4:Nat):Int) from rfl,
  step _ 4 _ (by omega) (by simp;omega),show (((4:Nat):Int) - 1)=((3:Nat):Int) from rfl,step _ 3 _ (by omega) (by simp;omega),show (((3:Nat):Int) - 1)=((2:Nat):Int) from rfl,
  step _ 2 _ (by omega) (by simp;omega),show (((2:Nat):Int) - 1)=((1:Nat):Int) from rfl,step _ 1 _ (by omega) (by simp;omega),show (((1:Nat):Int) - 1)=((0:Nat):Int) from rfl,
  step _ 0 _ (by omega) (by simp;omega)]
 show qer _ _ m _ _ _ _=_;unfold qer qda;rw[show decide ((0:Int)≤((0:Nat):Int) - 1)=false from rfl,yd];simp only[yl];rfl
theorem quS (k0:LI→OA) (s:LU) (hl:s.length≤4194304):∀ (d i n:Nat) (out:LI),i+d=s.length→d+9 < n→out.length+8*d≤room →
 qkR k0 n s out (i:Nat)=k0 (out++(s.drop i).flatMap qcA)
 | d,i,0,out,hi,hn,_=>by omega
 | 0,i,n+1,out,hi,hn,_=>by
  show qdb _ _ n _ _ _=_;unfold qdb;rw[dF (by omega),yd,yA (by omega)];simp
 | d+1,i,n+1,out,hi,hn,hb=>by
  show qdb _ _ n _ _ _=_;unfold qdb;have hlt:i < s.length:=by omega
  rw[dT (by omega),yc,qDn _ s i hlt n (by omega) out (by omega)];unfold qmI;rw[qd (by omega),quS k0 s hl d (i+1) n _ (by omega) (by omega) (by rw[yn];simp[qcA];omega),qr (d:=(0:UInt8)) hlt,List.flatMap_cons,yl]
theorem qJD:∀ (s0:LU),(qnZ s0=true)→∃ n,quA n s0=qCD (z190 s0):=fun s h=>⟨s.length+10,by
 unfold qnZ at h;have hl:s.length≤4194304:=by simpa using h
 unfold quA z190;refine(quS (qmJ (s.length+10)) s hl s.length 0 (s.length+10) [] (by omega) (by omega) (by unfold room;simp;omega)).trans ?_;rw[yw];rfl⟩
theorem quT (k2:LU→OA) (l:LI) (k:Nat) (hk:l.length=6*k) (hl:l.length≤100000000):∀ (d i n:Nat) (out:LU),i+d=k→d < n→out.length+d≤room →
 qkT k2 n l out ((6*i:Nat):Int)=k2 (out++sixes d (l.drop (6*i)))
 | d,i,0,out,hi,hn,_=>by omega
 | 0,i,n+1,out,hi,hn,_=>by
  show qes _ _ n _ _ _=_;unfold qes qcb;rw[dF (by omega),yd];unfold sixes;rw[yG]
 | d+1,i,n+1,out,hi,hn,hb=>by
  show qes _ _ n _ _ _=_;unfold qes qcb;have e6:wrap .i64 (((6*i:Nat):Int)+6)=((6*(i+1):Nat):Int):=by rw[IntWalk.i64_in _ (by omega)];omega
  rw[e6];have ed:drop (6*i) (take (6*(i+1)) l)=(l.drop (6*i)).take 6:=by
   rw[List.drop_take,show 6*(i+1) - 6*i=6 by omega]
  simp (disch:=(first | omega | (simp;omega))) only [dT,yc,yi,tn];rw[ed,show qdk ((l.drop (6*i)).take 6)=true from by unfold qdk;rw[dT];rw[yz];omega,yc,
   quT k2 l k hk hl d (i+1) n _ (by omega) (by omega) (by simp;omega),yl]
  show _=k2 (out++(z191 (z151 ((l.drop (6*i)).take 6)) :: sixes d ((l.drop (6*i)).drop 6)));rw[List.drop_drop];rfl
theorem qJE:∀ (s0:LU),(qoa s0=true)→∃ n,quB n s0=qCc (z138 s0):=fun s h=>⟨(padTo 6 0 (z190 s)).length / 6+20,by
 have h':=h;unfold qoa at h;have hl:s.length≤4194304:=by simpa using h
 have hb:=qso s;have hp:=qDh (m:=6) (n:=(z190 s).length) (by omega);unfold quB z138;rw[show qnZ s=true from h',y6,yc];generalize hN:(padTo 6 0 (z190 s)).length / 6+20=N;have hpl:(padTo 6 0 (z190 s)).length=(z190 s).length+qN (z190 s).length 6:=by unfold padTo;simp
 refine(qsn (m:=6) (x:=(0:Int)) (k0:=qbC N) (L:=fun n l=>qkS (qbC N) n l) (by omega) (by omega) (fun n l hr=>?_) _ N (z190 s) rfl (by omega) (by unfold room;omega)).trans ?_
 ·show qij _ _ n _=_;unfold qij;rw[dT (show l.length+([(0:Int)]:LI).length≤room by simp;omega)];rfl
 ·show qbC N (padTo 6 0 (z190 s))=_;unfold qbC;refine(quT (qmK N) (padTo 6 0 (z190 s)) ((padTo 6 0 (z190 s)).length / 6) (by omega) (by omega) ((padTo 6 0 (z190 s)).length / 6) 0 N [] (by omega) (by omega) (by unfold room;simp;omega)).trans ?_;rfl⟩
theorem qQg:∀ (s0:LU),(qvM s0=true)→∃ n,qIc n s0=qCc (z74 s0):=fun s h=>⟨20,by
 have h':=h;unfold qvM at h;have hl:s.length≤4194304:=by simpa using h
 have hb:=qDi s;have hp:=qDh (m:=6) (n:=8*s.length) (by omega);have hq:=qDh (m:=4) (n:=(z138 s).length) (by omega);unfold qIc z74;rw[show qoa s=true from h',y6,yc];refine(qsn (m:=4) (x:=(61:UInt8)) (k0:=qmM 20) (L:=fun n l=>qwC (qmM 20) n l) (by omega) (by omega) (fun n l hr=>?_) _ 20 (z138 s) rfl (by omega) (by unfold room;omega)).trans ?_
 ·show qmL _ _ n _=_;unfold qmL;rw[dT (show l.length+([(61:UInt8)]:LU).length≤room by simp;omega)];rfl
 ·rfl⟩
theorem qJF:∀ (n0:Int),∃ n,qLA n n0=qmi (z222 n0):=fun n=>⟨0,by
 unfold qLA qjt z222;rw[and63];have h0:(0:Int)≤n % 64:=by omega
 have h1:n % 64 < (((b64D.length:Nat)):Int):=by show n % 64 < ((64:Nat):Int);omega
 rw[yo h0];show (bif true&&decide (n % 64 < (((b64D.length:Nat)):Int)) then _ else _)=_;rw[yo h1];rfl⟩
theorem qVB (k2:LU→Int→Int→LU→Int→Int→OA) (n:Nat) (out:LU) (h:Nat) (s8:LU) (s9 s10:Int) (ho:out.length+1≤room) :
 qdl k2 (n+3) out (h:Int) 8 s8 s9 s10=k2 (out++[z222 ((h / 4:Nat):Int)]) (h:Int) 2 s8 s9 s10:=by
 have e:qdl k2 (n+3) out (h:Int) 8 s8 s9 s10=bif decide (out.length+1≤room) then k2 (out++[z222 (Int.fdiv (h:Int) ((4:Nat):Int))]) (h:Int) 2 s8 s9 s10 else none:=rfl
 rw[e,dT ho,yc,fdivN]
theorem qVC (k2:LU→Int→Int→LU→Int→Int→OA) (n:Nat) (out:LU) (h:Nat) (s8:LU) (s9 s10:Int) (ho:out.length+1≤room) :
 qdl k2 (n+3) out (h:Int) 10 s8 s9 s10=k2 (out++[z222 ((h / 16:Nat):Int)]) (h:Int) 4 s8 s9 s10:=by
 have e:qdl k2 (n+3) out (h:Int) 10 s8 s9 s10=bif decide (out.length+1≤room) then k2 (out++[z222 (Int.fdiv (h:Int) ((16:Nat):Int))]) (h:Int) 4 s8 s9 s10 else none:=rfl
 rw[e,dT ho,yc,fdivN]
theorem qVD (k2:LU→Int→Int→LU→Int→Int→OA) (n:Nat) (out:LU) (h:Nat) (s8:LU) (s9 s10:Int) (ho:out.length+2≤room) :
 qdl k2 (n+3) out (h:Int) 12 s8 s9 s10=k2 (out++[z222 ((h / 64:Nat):Int),z222 (h:Int)]) (h:Int) 0 s8 s9 s10:=by
 have e:qdl k2 (n+3) out (h:Int) 12 s8 s9 s10=bif decide (out.length+1≤room) then (bif decide ((out++[z222 (Int.fdiv (h:Int) ((64:Nat):Int))]).length+1≤room) then k2 ((out++[z222 (Int.fdiv (h:Int) ((64:Nat):Int))])++[z222 (Int.fdiv (h:Int) ((1:Nat):Int))]) (h:Int) 0 s8 s9 s10 else none) else none:=rfl
 rw[e,dT (show out.length+1≤room by omega),yc,dT (by rw[yn];exact ho),yc,fdivN,fdivN,Nat.div_one,yl];rfl
theorem qJG (k0:LU→Int→Int→OA) (next:LU→Int→Int→LU→Int→Int→OA) (j n:Nat) (out:LU) (h m x:Nat) (s8:LU) (s9 s10:Int)
 (hm:m=0∨m=2∨m=4) (hh:h < 2 ^ m) (hx:x < 256) (ho:out.length+2≤room) :
 qdl (qei k0 next j) (n+3) out (bits .or .i64 (wrap .i64 ((h:Int)*2 ^ (min (toNat (8:Int)) (IntKind.bits .i64)))) (wrap .i64 (x:Int))) (wrap .i64 ((m:Int)+8)) s8 s9 s10
  = next (out++encD m h x) (encH m h x:Nat) (encM m:Nat) s8 s9 (wrap .i64 (s10+1)):=by
 have hh16:h < 16:=by rcases hm with rfl | rfl | rfl <;> omega
 rw[held8 h x hh16 hx];rcases hm with rfl | rfl | rfl
 ·rw[show wrap .i64 (((0:Nat):Int)+8)=8 from rfl,qVB _ _ _ _ _ _ _ (by omega)];have e:qei k0 next j (out++[z222 (((h*256+x) / 4:Nat):Int)]) ((h*256+x:Nat):Int) 2 s8 s9 s10=next (out++[z222 (((h*256+x) / 4:Nat):Int)]) (bits .and .i64 ((h*256+x:Nat):Int) ((2 ^ 2 - 1:Nat):Int)) 2 s8 s9 (wrap .i64 (s10+1)):=rfl;rw[e,qla _ 2 (by omega) (by decide)];have e2:encD 0 h x=[z222 (((h*256+x) / 4:Nat):Int)]:=rfl;have e3:encH 0 h x=(h*256+x) % 2 ^ 2:=rfl;have e4:encM 0=2:=rfl;rw[e2,e3,e4];rfl
 ·rw[show wrap .i64 (((2:Nat):Int)+8)=10 from rfl,qVC _ _ _ _ _ _ _ (by omega)];have e:qei k0 next j (out++[z222 (((h*256+x) / 16:Nat):Int)]) ((h*256+x:Nat):Int) 4 s8 s9 s10=next (out++[z222 (((h*256+x) / 16:Nat):Int)]) (bits .and .i64 ((h*256+x:Nat):Int) ((2 ^ 4 - 1:Nat):Int)) 4 s8 s9 (wrap .i64 (s10+1)):=rfl;rw[e,qla _ 4 (by omega) (by decide)];have e2:encD 2 h x=[z222 (((h*256+x) / 16:Nat):Int)]:=rfl;have e3:encH 2 h x=(h*256+x) % 2 ^ 4:=rfl;have e4:encM 2=4:=rfl;rw[e2,e3,e4];rfl
 ·rw[show wrap .i64 (((4:Nat):Int)+8)=12 from rfl,qVD _ _ _ _ _ _ _ ho];have e0:qei k0 next j (out++[z222 (((h*256+x) / 64:Nat):Int),z222 ((h*256+x:Nat):Int)]) ((h*256+x:Nat):Int) 0 s8 s9 s10=next (out++[z222 (((h*256+x) / 64:Nat):Int),z222 ((h*256+x:Nat):Int)]) (bits .and .i64 ((h*256+x:Nat):Int) ((2 ^ 0 - 1:Nat):Int)) 0 s8 s9 (wrap .i64 (s10+1)):=rfl;rw[e0,qla _ 0 (by omega) (by decide)];have e3:encH 4 h x=(h*256+x) % 2 ^ 0:=rfl;have e4:encM 4=0:=rfl;have e:encD 4 h x=[z222 (((h*256+x) / 64:Nat):Int),z222 ((h*256+x:Nat):Int)]:=by
   show [z222 (((h*256+x:Nat):Int) / 64),_]=_;rw[Int.natCast_ediv];rfl
  rw[e,e3,e4];rfl
theorem qQh (m:Nat) (s out:LU) (mm h:Nat) (e:EncSt s out mm h) (ho:out.length+1≤room):qfS m out (h:Int) (mm:Int)=qCc (z138 s):=by
 have hc:=e.cases;have hl:=e.lt;unfold qfS;rcases hc with rfl | rfl | rfl
 ·rw[dF (by omega),yd,e.bare_nil]
 ·rw[e.bare_some (by decide),dT (by omega),yc];have e1:wrap .i64 ((h:Int)*2 ^ (min (toNat (wrap .i64 ((6:Int) - ((2:Nat):Int)))) (IntKind.bits .i64)))=((h*2 ^ (6 - 2):Nat):Int):=by
   show wrap .i64 ((h:Int)*16)=_;rw[IntWalk.i64_in _ (by omega)];omega
  rw[e1,dT (show (0:Int)≤wrap .i64 ((6:Int) - ((2:Nat):Int)) from by decide),yc,dT (show out.length+[_].length≤room from ho),yc]
 ·rw[e.bare_some (by decide),dT (by omega),yc];have e1:wrap .i64 ((h:Int)*2 ^ (min (toNat (wrap .i64 ((6:Int) - ((4:Nat):Int)))) (IntKind.bits .i64)))=((h*2 ^ (6 - 4):Nat):Int):=by
   show wrap .i64 ((h:Int)*4)=_;rw[IntWalk.i64_in _ (by omega)];omega
  rw[e1,dT (show (0:Int)≤wrap .i64 ((6:Int) - ((4:Nat):Int)) from by decide),yc,dT (show out.length+[_].length≤room from ho),yc]
theorem qpx (j:Nat) (s:LU) (hl:s.length≤1048576):∀ (d i n:Nat) (out:LU) (h m:Nat),i+d=s.length→d+3 < n→EncSt (s.take i) out m h→out.length≤2*i →
 qkE (qfS j) n out (h:Int) (m:Int) s (s.length:Nat) (i:Nat)=qCc (z138 s)
 | d,i,0,out,h,m,hi,hn,_,_=>by omega
 | 0,i,n+1,out,h,m,hi,hn,e,ho=>by
  obtain rfl:i=s.length:=by omega
  show qcZ _ _ n _ _ _ _ _ _=_;unfold qcZ;rw[dF (by omega),yd];rw[List.take_length] at e;exact qQh j s out m h e (by unfold room;omega)
 | d+1,i,n+1,out,h,m,hi,hn,e,ho=>by
  show qcZ _ _ n _ _ _ _ _ _=_;unfold qcZ;have hlt:i < s.length:=by omega
  have hx:=(s.getD i 0).toNat_lt;simp (disch:=omega) only [dT,yc,yi,tn];obtain⟨n',rfl⟩:∃ n',n=n'+3:=⟨n - 3,by omega⟩;rw[qJG _ _ _ n' out h m _ s _ _ e.cases e.lt hx (by unfold room;omega),qd (by omega)];have e2:=e.step (s.getD i 0);have ht:s.take i++[s.getD i 0]=s.take (i+1):=by
   rw[List.take_succ_eq_append_getElem hlt,yY,yO hlt];rfl
  rw[ht] at e2;have hd:=qPR m h (s.getD i 0).toNat;exact qpx j s hl d (i+1) (n'+3) _ _ _ (by omega) (by omega) e2 (by rw[yn];omega)
theorem qJH:∀ (s0:LU),(qKF s0=true)→∃ n,qul n s0=qCc (z182 s0):=fun s h=>⟨s.length+5,by
 have hl:=qb h;unfold qul;exact qpx (s.length+5) s hl s.length 0 (s.length+5) [] 0 0 (by omega) (by omega) EncSt.nil (by simp)⟩
theorem qJI:∀ (c0:UInt8),∃ n,qLZ n c0=qKR (z204 c0):=fun c=>⟨0,by
 have h:=qcm (P:=fun c=>((bif decide (c < (128:UInt8)) then (1:Int) else bif decide ((194:UInt8)≤c)&&decide (c≤(223:UInt8)) then 2 else bif decide ((224:UInt8)≤c)&&decide (c≤(239:UInt8)) then 3
  else bif decide ((240:UInt8)≤c)&&decide (c≤(244:UInt8)) then 4 else 0)==z218 c)=true) qDj c
 rw[beq_iff_eq] at h;unfold qLZ z204;rw[← h];cases decide (c < (128:UInt8)) <;> cases decide ((194:UInt8)≤c) <;> cases decide (c≤(223:UInt8)) <;> cases decide ((224:UInt8)≤c) <;> cases decide (c≤(239:UInt8)) <;> cases decide ((240:UInt8)≤c) <;> cases decide (c≤(244:UInt8)) <;> rfl⟩
theorem qJJ:∀ (c0:UInt8),∃ n,qMa n c0=qhd (z232 c0).1 (z232 c0).2:=fun c=>⟨0,by
 unfold qMa z232;cases (c==(224:UInt8)) <;> cases (c==(237:UInt8)) <;> cases (c==(240:UInt8)) <;> cases (c==(244:UInt8)) <;> rfl⟩
theorem quU (m:Nat) (x:UInt8) (r:LU) (hl:r.length≤1048576):∀ (d i n:Nat),qc x=i+d→1≤i→i≤r.length+1→d < n →
 qjO qKR (qim m) n (x :: r) (i:Nat)=qKR ((i+runB x d (i==1) (r.drop (i - 1)):Nat):Int)
 | d,i,0,_,_,_,hn=>by omega
 | 0,i,n+1,hs,hi,hr,hn=>by
  show qey _ _ _ n _ _=_;unfold qey qbh;have e0:z204 (getD (x :: r) (toNat 0) 0)=((qc x:Nat):Int):=rfl;have h0:decide ((0:Int) < (((x :: r).length:Nat):Int))=true:=dT (by simp only[yg];omega);rw[e0,h0,dF (show ¬ ((i:Nat):Int) < ((qc x:Nat):Int) by omega)];have hr0:runB x 0 (i==1) (r.drop (i - 1))=0:=by cases r.drop (i - 1) <;> rfl
  rw[hr0];rfl
 | d+1,i,n+1,hs,hi,hr,hn=>by
  show qey _ _ _ n _ _=_;unfold qey qbh;have e0:z204 (getD (x :: r) (toNat 0) 0)=((qc x:Nat):Int):=rfl;have h0:decide ((0:Int) < (((x :: r).length:Nat):Int))=true:=dT (by simp only[yg];omega);rw[e0,h0,dT (show ((i:Nat):Int) < ((qc x:Nat):Int) by omega)];simp only[yc,yi,show decide ((0:Int)≤0)=true from rfl]
  by_cases hlt:i < (x :: r).length
  ·have hlt':i - 1 < r.length:=by simp only[yg] at hlt;omega
   obtain⟨y,hy⟩:∃ y,r.getD (i - 1) 0=y:=⟨_,rfl⟩;have hg:(x :: r).getD i 0=y:=by
    obtain⟨k,rfl⟩:∃ k,i=k+1:=⟨i - 1,by omega⟩;exact hy
   have hdr:r.drop (i - 1)=y :: r.drop i:=by
    have:=qbD hlt';rw[this,hy,show i - 1+1=i by omega]
   have e2:getD (x :: r) (toNat 0) 0=x:=rfl;rw[dT (show ((i:Nat):Int) < (((x :: r).length:Nat):Int) by omega),dT (show (0:Int)≤((i:Nat):Int) by omega),tn,hg,hdr,e2];simp only[yc,yi];have hrun:runB x (d+1) (i==1) (y :: r.drop i)=bif z237 y&&(!(i==1)||z238 x y) then runB x d false (r.drop i)+1 else 0:=rfl
   have ih:=quU m x r hl d (i+1) n (by omega) (by omega) (by simp only[yg] at hlt;omega) (by omega);rw[show i+1 - 1=i by omega,show (i+1==1)=false by simp;omega] at ih;rw[hrun,quP,quP,qJf,quO];have hfin:qjO qKR (qim m) n (x :: r) (wrap .i64 (((i:Nat):Int)+1))=qKR ((i+(runB x d false (r.drop i)+1):Nat):Int):=by
    rw[qd (by omega),ih,show i+1+runB x d false (r.drop i)=i+(runB x d false (r.drop i)+1) by omega]
   by_cases h1:i=1
   ·subst h1;rw[show (((1:Nat):Int)==1)=true from rfl,show ((1:Nat)==1)=true from rfl,yc,Bool.not_true,Bool.false_or];cases z237 y&&z238 x y
    ·rfl
    ·exact hfin
   ·rw[show (((i:Nat):Int)==1)=false by simp;omega,show (i==1)=false by simpa using h1,yd,Bool.not_false,Bool.true_or,yi];cases z237 y
    ·rfl
    ·exact hfin
  ·have hi2:i=r.length+1:=by simp only[yg] at hlt;omega
   rw[dF (show ¬ ((i:Nat):Int) < (((x :: r).length:Nat):Int) by omega),yd,yA (by omega)];rfl
theorem qJK:∀ (s0:LU),(qtq s0=true)→∃ n,quE n s0=qKR (z203 s0):=fun s h=>⟨6,by
 have hl:=qb h;match s with
 | []=>rfl
 | x :: r =>
  simp only[yg] at hl;have h4:=qin x;have ef:z203 (x :: r)=((bif qc x==0 then 0 else 1+runB x (qc x - 1) true r:Nat):Int):=rfl;have e0:z204 (getD (x :: r) (toNat 0) 0)=((qc x:Nat):Int):=rfl;have h0':decide ((0:Int) < (((x :: r).length:Nat):Int))=true:=dT (by simp only[yg];omega);have h00:((((x :: r).length:Nat):Int)==0)=false:=by rw[yB];simp only[yg];omega
  unfold quE;rw[ef,e0,h0',h00];simp only[yd,yi,show decide ((0:Int)≤0)=true from rfl,yc]
  by_cases h0:qc x=0
  ·rw[h0];rfl
  ·rw[show (qc x==0)=false by simpa using h0,show (((qc x:Nat):Int)==0)=false by rw[yB];omega,yd,yd];have:=quU 6 x r (by omega) (qc x - 1) 1 6 (by omega) (yv 1) (by omega) (by omega);rw[show (1:Nat) - 1=0 from rfl,yw] at this;exact this⟩
theorem qpy (m:Nat) (s:LU) (N:Nat) (hl:s.length≤1048576) (hN:N≤s.length):∀ (d i n b c:Nat),i+d=N→d < n→c < b→b*64 ^ d≤67108864→((s.drop i).take d).all z237=true →
 qkV (qmW m) n s (N:Int) (c:Int) (i:Nat)=qcW (foldS ((s.drop i).take d) c) N 0
 | d,i,0,b,c,hi,hn,_,_,_=>by omega
 | 0,i,n+1,b,c,hi,hn,hc,hb,_=>by
  obtain rfl:i=N:=by omega
  show qez _ _ n _ _ _ _=_;unfold qez;rw[dF (by omega),yd,List.take_zero];show qcW (wrap .i32 (c:Int)) _ 0=_;rw[IntWalk.i32_in _ (by omega)];rfl
 | d+1,i,n+1,b,c,hi,hn,hc,hb,hF=>by
  show qez _ _ n _ _ _ _=_;unfold qez;have hlt:i < s.length:=by omega
  have h64:0 < 64 ^ d:=Nat.pow_pos (by decide);have hb':b*64*64 ^ d≤67108864:=by rw[Nat.pow_succ] at hb;rwa[Nat.mul_assoc,Nat.mul_comm 64]
  have hb2:b*64≤b*64*64 ^ d:=Nat.le_mul_of_pos_right _ h64;rw[qbD hlt,List.take_succ_cons,List.all_cons,yf] at hF;have hy:=low6 (s.getD i 0);have hyf:=low6f hF.1;simp (disch:=omega) only [dT,yc,yi,tn];have e1:wrap .i64 ((wrap .i64 ((wrap .i64 ((64:Int)*(c:Int)))+(wrap .i64 (((s.getD i 0).toNat:Nat):Int)))) - (128:Int))=((c*64+((s.getD i 0) &&& 63).toNat:Nat):Int):=by
   rw[IntWalk.i64_in (64*(c:Int)) (by omega),IntWalk.i64_in (((s.getD i 0).toNat:Nat):Int) (by omega),IntWalk.i64_in (64*(c:Int)+_) (by omega),IntWalk.i64_in _ (by omega)];omega
  rw[e1,qd (by omega),qpy m s N hl hN d (i+1) n (b*64) _ (by omega) (by omega) (by omega) hb' hF.2,qbD hlt,List.take_succ_cons];show _=qcW (foldS ((s.drop (i+1)).take d) ((c:Int)*64+(((s.getD i 0) &&& 63).toNat:Int))) N 0;congr 2
theorem qJL:∀ (s0:LU),(qtr s0=true)→∃ n,quF n s0=qcW (z152 s0).1 (z152 s0).2.1 (z152 s0).2.2:=fun s h=>⟨s.length+5,by
 have hl:=qb h;match s with
 | []=>rfl
 | x :: r =>
  simp only[yg] at hl;have hf:=qDd x r;have h4:=qin x;obtain⟨N,hN⟩:∃ N,farN (x :: r)=N:=⟨_,rfl⟩;have eT:z152 (x :: r)=bif farN (x :: r)==0 then ((0:Int),((1:Int),(3:Int))) else bif decide (farN (x :: r) < qc x)&&(farN (x :: r)==(x :: r).length) then (0,(farN (x :: r):Nat),4)
   else bif decide (farN (x :: r) < qc x) then (0,(farN (x :: r):Nat),3) else (signN (farN (x :: r)) (x :: r),(farN (x :: r):Nat),0):=rfl
  have eF:z203 (x :: r)=(N:Int):=by rw[← hN];rfl
  have eS:z204 (getD (x :: r) (toNat 0) 0)=((qc x:Nat):Int):=rfl;have hok:qtq (x :: r)=true:=qm (show (x :: r).length≤1048576 by simp only[yg];omega);have h0:decide ((0:Int) < (((x :: r).length:Nat):Int))=true:=dT (by simp only[yg];omega);have h00:((((x :: r).length:Nat):Int)==0)=false:=by rw[yB];simp only[yg];omega
  rw[eT,hN];rw[hN] at hf;unfold quF;rw[eF,eS,hok,h0,h00];simp only[yi,yc,yd,show decide ((0:Int)≤0)=true from rfl]
  by_cases hz:N=0
  ·subst hz;rw[show decide ((0:Int) < ((0:Nat):Int))=false from rfl,show (((0:Nat):Int)==(((x :: r).length:Nat):Int))=false by rw[yB];simp only[yg];omega];rfl
  ·rw[dT (show (0:Int) < ((N:Nat):Int) by omega),show (N==0)=false by simpa using hz];simp only[yc,yd]
   by_cases hs:N < qc x
   ·rw[show (((N:Nat):Int)==((qc x:Nat):Int))=false by rw[yB];omega,yo hs];simp only[yc,y6,yd]
    by_cases hlN:N=(x :: r).length
    ·rw[show (((N:Nat):Int)==(((x :: r).length:Nat):Int))=true by rw[beq_iff_eq];omega,show (N==(x :: r).length)=true by simpa using hlN];rfl
    ·rw[show (((N:Nat):Int)==(((x :: r).length:Nat):Int))=false by rw[yB];omega,show (N==(x :: r).length)=false by simpa using hlN,yd,yd];rw[show decide ((1:Int) > ((N:Nat):Int))=false from dF (by omega)];rfl
   ·have hNs:N=qc x:=by omega
    rw[show (((N:Nat):Int)==((qc x:Nat):Int))=true by rw[beq_iff_eq];omega,yx hs];simp only[yd,Bool.false_and,yc];rw[dT (show (0:Int)≤((N:Nat):Int) by omega),dT (show ((N:Nat):Int) < ((([(0:Int),(0:Int),(192:Int),(224:Int),(240:Int)]:LI).length:Nat):Int) by show ((N:Nat):Int) < ((5:Nat):Int);omega)];simp only[yi,yc,tn];have e2:getD (x :: r) (toNat 0) 0=x:=rfl;have hx:=(x &&& (255 ^^^ z185 ((N:Nat):Int))).toNat_lt;have hfs:=qcm (P:=fun x=>(qc x==0||((x.toNat:Int) - getD ([(0:Int),(0:Int),(192:Int),(224:Int),(240:Int)]:LI) (qc x) 0==(((x &&& (255 ^^^ (z185 ((qc x:Nat):Int)))).toNat:Nat):Int)))=true) qwJ x;rw[show (qc x==0)=false by rw[yB];omega,Bool.false_or,beq_iff_eq,← hNs] at hfs;have hxl:=x.toNat_lt;rw[e2,IntWalk.i64_in ((x.toNat:Nat):Int) (by omega),hfs,IntWalk.i64_in _ (by omega)];have hall:((r.take (N - 1)).all z237)=true:=by
     refine qDk x (N - 1) true r ?_;have hN':(bif qc x==0 then 0 else 1+runB x (qc x - 1) true r)=N:=hN;rw[show (qc x==0)=false by rw[yB];omega,yd,← hNs] at hN';omega
    have:=qpy ((x :: r).length+5) (x :: r) N (by simp only[yg];omega) (by simp only[yg];omega) (N - 1) 1 ((x :: r).length+5) 256 _ (by omega) (by simp only[yg];omega) hx (by
     have:N - 1=0∨N - 1=1∨N - 1=2∨N - 1=3:=by omega
     rcases this with e | e | e | e <;> rw[e] <;> decide) hall
    exact this⟩
theorem quV (m:Nat) (s:LU) (hl:s.length≤1048576):∀ (n k i:Nat) (out:LI) (b:Nat) (f:Int),s.length - i < n→s.length - i < k→out.length≤i→b≤i→i≤s.length →
 qsd (qmY m) n s out (b:Int) f (i:Int)=qpj (out++utfR k (s.drop i)) (utfE k (s.drop i) ((b:Int),f)).1 (utfE k (s.drop i) ((b:Int),f)).2
 | 0,k,i,out,b,f,hn,_,_,_,_=>by omega
 | n+1,0,i,out,b,f,_,hk,_,_,_=>by omega
 | n+1,k+1,i,out,b,f,hn,hk,ho,hb,hi=>by
  show qmX _ (qsd (qmY m) n) n _ _ _ _ _=_;unfold qmX qeA qbi
  by_cases hlt:i < s.length
  ·obtain⟨x,r,hx⟩:∃ x r,s.drop i=x :: r:=⟨_,_,qbD hlt⟩;have hrl:r.length+1+i=s.length:=by have:=congrArg length hx;rw[yK,yg] at this;omega
   obtain⟨e1,e2⟩:=qMc x r;have e3:=qql x r;rw[dT (show ((i:Nat):Int) < ((s.length:Nat):Int) by omega),dT (show (0:Int)≤((i:Nat):Int) by omega),dT (show ((i:Nat):Int)≤((s.length:Nat):Int) by omega),dT (Int.le_refl _),tn,tn,List.take_length,hx];simp only[yc,yi];rw[show qtr (x :: r)=true from qm (by simp only[yg];omega),yc];rw[show z152 (x :: r)=z178 (x :: r) from rfl];generalize hw:(z178 (x :: r)).2.1.toNat=w at e1 e2 e3;rw[e1,show decide ((1:Int) > (w:Int))=false from dF (by omega),yd,show wrap .i64 (((i:Nat):Int)+(w:Int))=((i+w:Nat):Int) by rw[IntWalk.i64_in _ (by omega)];omega];have hdr:(x :: r).drop w=s.drop (i+w):=by rw[← hx,List.drop_drop]
   have hroom:∀ y:Int,out.length+([y]:LI).length≤room:=fun y=>by show out.length+1≤room;unfold room;omega
   have eR:utfR (k+1) (x :: r)=(bif (z178 (x :: r)).2.2 != 0 then 65533 else (z178 (x :: r)).1) :: utfR k (s.drop (i+w)):=by
    rw[← hdr,← hw];rfl
   have eE:utfE (k+1) (x :: r) ((b:Int),f)=utfE k (s.drop (i+w)) (bif (z178 (x :: r)).2.2 != 0 then ((b:Int)+1,bif f==0 then (z178 (x :: r)).2.2 else f) else ((b:Int),f)):=by
    rw[← hdr,← hw];rfl
   rw[eR,eE,dT (hroom 65533),dT (hroom (z178 (x :: r)).1)];have ih:=fun (y:Int) (b':Nat) (f':Int) (hb':b'≤i+w)=>quV m s hl n k (i+w) (out++[y]) b' f' (by omega) (by omega) (by rw[yn];show out.length+1≤_;omega) hb' (by omega);cases hc:((z178 (x :: r)).2.2 != 0) with
   | false =>
    simp only[yd,yc];rw[ih _ b f (by omega),yl];rfl
   | true =>
    simp only[yc];rw[qd (by omega)];have hbe:(b:Int)+1=((b+1:Nat):Int):=by omega
    rw[hbe];cases hf:f==0 with
    | true=>simp only[yc];rw[ih 65533 (b+1) _ (by omega),yl];rfl
    | false=>simp only[yd];rw[ih 65533 (b+1) _ (by omega),yl];rfl
  ·rw[dF (by omega),yd,yA (by omega)];show qpj out (b:Int) f=qpj (out++[]) _ _;rw[yG];rfl
theorem qQi:∀ (s0:LU),(qEU s0=true)→∃ n,qPr n s0=qpj (z89 s0).1 (z89 s0).2.1 (z89 s0).2.2:=fun s h=>⟨s.length+1,by
 have hl:=qb h;have:=quV (s.length+1) s hl (s.length+1) (s.length+1) 0 [] 0 0 (by omega) (by omega) (by simp) (yv 0) (by omega);rw[yw,List.nil_append] at this;exact this⟩
theorem qQj:∀ (charset0:Int) (s1:LU),(qoc charset0 s1=true)→∃ n,qIg n charset0 s1=qBS (z42 charset0 s1):=fun cs s h=>⟨s.length+1,by
 have hl:=qb h;unfold qIg;rw[show qEU s=true from h];cases h5:cs==5 with
 | true =>
  have:=beq_iff_eq.1 h5;subst this;rfl
 | false =>
  rw[yd];have:=qdV (t:=s) (dv:=0) (f:=fun c=>[qjT cs c]) (q:=fun _=>true) (b:=1) (k0:=qmZ (s.length+1)) (R:=none)
   (L:=fun n out i=>qwF (qmZ (s.length+1)) n cs s out i) (fun x=>yv 1) (fun n i out hi hb=>by
    show qhe _ _ n _ _ _ _=_;unfold qhe qbJ qJ qan;have hr:∀ y:Int,out.length+([y]:LI).length≤room:=fun y=>hb;simp (disch:=omega) only [dT,yc,yi,tn,qd];rw[qhh,u127];unfold qjT z114;cases h1:cs==1 with
    | true =>
     have hcs:=beq_iff_eq.1 h1;subst hcs;cases decide ((128:Int)≤((s.getD i 0).toNat:Int)) <;> rfl
    | false=>cases cs==3 <;> cases cs==4 <;> rfl) (fun n out=>by
    show qhe _ _ n _ _ _ _=_;unfold qhe qbJ qJ qan;rw[dF (by omega)];rfl) s.length 0 (s.length+1) [] (by omega) (by omega) (by show 0+_≤room;unfold room;omega)
  rw[yw,qne,yc,List.nil_append,qnd] at this;refine this.trans ?_;show qBS (s.map (qjT cs))=qBS (z29 cs s);unfold z29;rw[h5];have hf:∀ b:Bool,(cs==1)=b→True:=fun _ _=>trivial;cases h1:cs==1 with
  | true=>rw[show qjT cs=fun c:UInt8=>z114 (c.toNat:Int) from funext fun c=>by unfold qjT;rw[h1];rfl];rfl
  | false =>
   cases h3:cs==3 with
   | true=>rw[show qjT cs=z90 from funext fun c=>by unfold qjT;rw[h1,h3];rfl];rfl
   | false =>
    cases h4:cs==4 with
    | true=>rw[show qjT cs=z91 from funext fun c=>by unfold qjT;rw[h1,h3,h4];rfl];rfl
    | false=>rw[show qjT cs=fun c:UInt8=>(c.toNat:Int) from funext fun c=>by unfold qjT;rw[h1,h3,h4];rfl];rfl⟩
theorem qDo (m:Nat) (c:UInt8):∀ (d i n:Nat),i+d=64→d < n→qkU qjk (qmS m) n c (i:Nat)=qjk (valF d i c).1 (valF d i c).2
 | d,i,0,hi,hn=>by omega
 | 0,i,n+1,hi,hn=>by
  show qex _ _ _ n _ _=_;unfold qex;rw[dF (by omega)];rfl
 | d+1,i,n+1,hi,hn=>by
  show qex _ _ _ n _ _=_;unfold qex;rw[dT (by omega),yc,qd (by omega),qDo m c d (i+1) n (by omega) (by omega)];show _=qjk (bif z191 (i:Int)==c then ((i:Int),true) else valF d (i+1) c).1 (bif z191 (i:Int)==c then ((i:Int),true) else valF d (i+1) c).2;cases (z191 (i:Int)==c) <;> rfl
theorem qJM:∀ (c0:UInt8),∃ n,quD n c0=qjk (z150 c0).1 (z150 c0).2:=fun c=>⟨65,by
 have h:=qcm (P:=fun c=>(valF 64 0 c==z175 c)=true) qPT c;rw[beq_iff_eq] at h;unfold quD z150;rw[← h];exact qDo 65 c 64 0 65 rfl (by omega)⟩
theorem qhj (j:Nat) (s:LU) (hl:s.length≤1048576):∀ (d i n:Nat) (out:LU) (k:Nat),i+d=s.length→d < n→out.length≤i→k≤i →
 qwD (qsc j) n s out (k:Int) (i:Nat)=qBM (out++digB (s.drop i)) ((k+((((s.drop i).takeWhile fun c=>c != 61).filter fun c => !(isB64 c)).length):Nat):Int)
 | d,i,0,out,k,hi,hn,_,_=>by omega
 | 0,i,n+1,out,k,hi,hn,_,_=>by
  obtain rfl:i=s.length:=by omega
  show qhb _ _ n _ _ _ _=_;unfold qhb;rw[dF (by omega),yd,List.drop_length];show qBM out (k:Int)=qBM (out++[]) _;rw[yG];rfl
 | d+1,i,n+1,out,k,hi,hn,ho,hk=>by
  show qhb _ _ n _ _ _ _=_;unfold qhb;have hlt:i < s.length:=by omega
  have hr:out.length+([s.getD i 0]:LU).length≤room:=by show out.length+1≤room;unfold room;omega
  rw[qbD hlt,qcp,List.takeWhile_cons];simp (disch:=omega) only [dT,yc,yi,tn];cases h61:s.getD i 0==61 with
  | true =>
   have hne:(s.getD i 0 != 61)=false:=by rw[bne,h61];rfl
   rw[hne];show qBM out (k:Int)=qBM (out++[]) _;rw[yG];rfl
  | false =>
   have hne:(s.getD i 0 != 61)=true:=by rw[bne,h61];rfl
   rw[hne,yc,if_pos rfl,yd,List.filter_cons,show (z150 (s.getD i 0)).2=isB64 (s.getD i 0) from rfl];cases hv:isB64 (s.getD i 0) with
   | true =>
    rw[yc,qd (by omega),qhj j s hl d (i+1) n _ k (by omega) (by omega) (by rw[yn];show out.length+1≤_;omega) (by omega),yl];rfl
   | false =>
    rw[yd,qd (by omega),qd (by omega),qhj j s hl d (i+1) n out (k+1) (by omega) (by omega) (by omega) (by omega)];simp only[Bool.not_false,if_true,yg,yd];rw[show k+1+((((s.drop (i+1)).takeWhile fun c=>c != 61).filter fun c => !(isB64 c)).length)=k+(((((s.drop (i+1)).takeWhile fun c=>c != 61).filter fun c => !(isB64 c)).length)+1) by omega]
theorem qQk:∀ (s0:LU),(qEZ s0=true)→∃ n,qPo n s0=qBM (z86 s0).1 (z86 s0).2:=fun s h=>⟨s.length+1,by
 have hl:=qb h;have:=qhj (s.length+1) s hl s.length 0 (s.length+1) [] 0 (by omega) (by omega) (by simp) (yv 0);rw[yw,List.nil_append,yE] at this;exact this⟩
theorem qQl (k2:LU→LI→Int→OA) (n:Nat) (s:LU) (out:LI) (i5:Int) (v:Nat) (hv:v < 64) (ho:out.length+6≤room):qmU k2 (n+7) s out i5 (v:Int) 5=k2 s (out++qbo (v:Int)) i5:=by
 have h6:=qJg ⟨v,hv⟩;have hr:∀ (o:LI) (y:Int),o.length+1≤room→decide (o.length+([y]:LI).length≤room)=true:=fun o y h=>yo h;have step:∀ (q:Nat) (o:LI) (k:Nat),o.length+1≤room→k < 6→qmU k2 (q+1) s o i5 (v:Int) (k:Int)=qmU k2 q s (o++[tmod (Int.fdiv (v:Int) (2 ^ (min (toNat (k:Int)) (IntKind.bits .i64)))) 2]) i5 (v:Int) (wrap .i64 ((k:Int) - 1)):=fun q o k ho hk=>by
  show qmT _ _ q _ _ _ _ _=_;unfold qmT;rw[dT (show (0:Int)≤(k:Int) by omega),hr _ _ ho];rfl
 have e:qmU k2 (n+7) s out i5 (v:Int) ((5:Nat):Int)=k2 s (out++qbo (v:Int)) i5:=by
  rw[step (n+6) _ 5 (by omega) (by omega),show wrap .i64 (((5:Nat):Int) - 1)=((4:Nat):Int) from rfl,step (n+5) _ 4 (by simp;omega) (by omega),show wrap .i64 (((4:Nat):Int) - 1)=((3:Nat):Int) from rfl,
   step (n+4) _ 3 (by simp;omega) (by omega),show wrap .i64 (((3:Nat):Int) - 1)=((2:Nat):Int) from rfl,step (n+3) _ 2 (by simp;omega) (by omega),show wrap .i64 (((2:Nat):Int) - 1)=((1:Nat):Int) from rfl,
   step (n+2) _ 1 (by simp;omega) (by omega),show wrap .i64 (((1:Nat):Int) - 1)=((0:Nat):Int) from rfl,step (n+1) _ 0 (by simp;omega) (by omega)]
  show k2 s _ i5=_;rw[yl,yl,yl,yl,yl,← h6];rfl
 exact e
theorem qld (j:Nat) (s:LU) (hl:s.length≤1048576):∀ (d i n:Nat) (out:LI),i+d=s.length→d+8 < n→out.length≤6*i →
 qpi qdU (qjN j) n s out (i:Nat)=bif (s.drop i).all isB64 then qdU (out++bitsB (s.drop i)) true else qdU [] false
 | d,i,0,out,hi,hn,_=>by omega
 | 0,i,n+1,out,hi,hn,_=>by
  obtain rfl:i=s.length:=by omega
  show qfg _ _ _ n _ _ _=_;unfold qfg;rw[dF (by omega),yd,List.drop_length];show qdU out true=qdU (out++[]) true;rw[yG]
 | d+1,i,n+1,out,hi,hn,ho=>by
  show qfg _ _ (qpi qdU (qjN j) n) n _ _ _=_;unfold qfg;have hlt:i < s.length:=by omega
  rw[qbD hlt,List.all_cons];simp (disch:=omega) only [dT,yc,yi,tn];rw[show (z150 (s.getD i 0)).2=isB64 (s.getD i 0) from rfl];cases hv:isB64 (s.getD i 0) with
  | false=>rfl
  | true =>
   obtain⟨v,hv1,hv2⟩:=qMd (s.getD i 0);obtain⟨n',rfl⟩:∃ n',n=n'+7:=⟨n - 7,by omega⟩;rw[Bool.not_true,yd,y6,show (z150 (s.getD i 0)).1=(v:Int) from hv1,qQl _ _ _ _ _ v hv2 (by unfold room;omega)];show qpi qdU (qjN j) (n'+7) s (out++qbo (v:Int)) (wrap .i64 (((i:Nat):Int)+1))=_;rw[qd (by omega),qld j s hl d (i+1) (n'+7) _ (by omega) (by omega) (by rw[yn];show out.length+6≤_;omega),yl];have e:bitsB (s.getD i 0 :: s.drop (i+1))=qbo (v:Int)++bitsB (s.drop (i+1)):=by rw[← hv1];rfl
   rw[e]
theorem qQm:∀ (s0:LU),(qEV s0=true)→∃ n,qPp n s0=qdU (z87 s0).1 (z87 s0).2:=fun s h=>⟨s.length+9,by
 have hl:=qb h;have:=qld (s.length+9) s hl s.length 0 (s.length+9) [] (by omega) (by omega) (by simp);rw[yw,List.nil_append] at this;refine this.trans ?_;unfold z87;cases s.all isB64 <;> rfl⟩
theorem qle (j:Nat) (l:LI) (hl:l.length≤16777216):∀ (d i n:Nat) (out:LU),8*i≤l.length→l.length / 8=i+d→d < n→out=octs i l→qwE (qmV j) n l out ((8*i:Nat):Int)=qrG (z88 l).1 (z88 l).2
 | d,i,0,out,h8,hi,hn,_=>by omega
 | 0,i,n+1,out,h8,hi,hn,ho=>by
  show qhc _ _ n _ _ _=_;unfold qhc qcN;rw[show wrap .i64 (((8*i:Nat):Int)+8)=((8*i+8:Nat):Int) by rw[IntWalk.i64_in _ (by omega)];omega,dF (by omega),yd];unfold qmV;have hok:qdk (drop (toNat ((8*i:Nat):Int)) (take (toNat ((l.length:Nat):Int)) l))=true:=by
   unfold qdk;rw[tn,tn,List.take_length];exact yo (by rw[yK];omega)
  rw[hok,tn,tn,List.take_length];simp (disch:=omega) only [dT,yc,yi];unfold z88;rw[hi,ho,Nat.add_zero,Nat.mul_comm i 8]
 | d+1,i,n+1,out,h8,hi,hn,ho=>by
  show qhc _ _ n _ _ _=_;unfold qhc qcN;have hol:out.length=i:=by rw[ho,qqm]
  have e8:wrap .i64 (((8*i:Nat):Int)+8)=((8*(i+1):Nat):Int):=by rw[IntWalk.i64_in _ (by omega)];omega
  rw[e8,tn,tn];have hok:qdk (drop (8*i) (take (8*(i+1)) l))=true:=by
   unfold qdk;exact yo (by rw[yK,yz];omega)
  have hr:∀ y:UInt8,out.length+([y]:LU).length≤room:=fun y=>by show out.length+1≤room;unfold room;omega
  rw[hok];simp (disch:=omega) only [dT,yc,yi];rw[dT (hr _),yc];refine qle j l hl d (i+1) n _ (by omega) (by omega) (by omega) ?_;have e:octs (i+1) l=octs i l++[oct8 (z151 ((l.drop (8*i)).take 8))]:=by
   have h1:l=l.take (8*i)++l.drop (8*i):=(yX _ _).symm;have hlen:(l.take (8*i)).length=8*i:=by rw[yz];omega
   have h2:octs (i+1) l=octs (i+1) (l.take (8*i)++l.drop (8*i)):=by rw[← h1]
   have h3:octs i l=octs (i+0) (l.take (8*i)++l.drop (8*i)):=by rw[← h1];rfl
   rw[h2,h3,qiU i 1 _ _ hlen,qiU i 0 _ _ hlen];simp[octs]
  rw[e,ho,List.drop_take,show 8*(i+1) - 8*i=8 by omega];rfl
theorem qQn:∀ (l0:LI),(qEW l0=true)→∃ n,qPq n l0=qrG (z88 l0).1 (z88 l0).2:=fun l h=>⟨l.length / 8+1,by
 have hl:l.length≤16777216:=of_decide_eq_true h;exact qle (l.length / 8+1) l hl (l.length / 8) 0 (l.length / 8+1) [] (by omega) (by omega) (by omega) rfl⟩
theorem qQo:∀ (s0:LU),(qFa s0=true)→∃ n,qVl n s0=qBM (z41 s0).1 (z41 s0).2:=fun s h=>⟨0,by
 have hl:=qb h;have hd:=qyi s;have hall:(digB s).all isB64=true:=List.all_eq_true.2 fun c hc=>(List.mem_filter.1 hc).2;have eD:(z86 s).1=digB s:=rfl;have eV:(z87 (digB s)).1=bitsB (digB s):=by unfold z87;rw[hall];rfl
 unfold qVl;rw[show qEZ s=true from h,eD,show qEV (digB s)=true from qm (by omega),eV,show qEW (bitsB (digB s))=true from yo (by rw[qlS];omega)];rfl⟩
theorem qJN:∀ (t:LI),(qti t=true)→∃ n,quq n t=qKR (z223 t):=fun t h=>⟨t.length+1,by
 have hl:=qb (l:=t) h;unfold quq z223;refine qhi (qdf (L:=fun n i=>qkH qKR (qms (t.length+1)) n t ((t.length:Nat):Int) i) hl (fun n i hi=>?_) (fun n=>?_) t.length 0 (t.length+1) (by omega) (by omega)) rfl
 ·show qem _ _ _ n _ _ _=_;unfold qem;simp (disch:=omega) only [dT,yc,yi,tn,qd];unfold z224;cases z161 (t.getD i 0) <;> rfl
 ·show qem _ _ _ n _ _ _=_;unfold qem;rw[dF (by omega)];rfl⟩
end
end Go.Av
