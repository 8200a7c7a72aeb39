import Derived.Test.YtmdadpepccbpcaaGreatDoorPoSh
import Derived.Test.YtmdadpepccbpcaaGreatDoorPoB
import Derived.Test.YtmdadpepccbpcaaGreatDoorAvE
import Derived.Lib.IndexAny
import Derived.Lib.IndexMore
import Derived.Lib.IndexBytes
import Derived.IntWalk
import Derived.KernelRfl
namespace Go.Av
set_option linter.unusedSimpArgs false
set_option linter.unusedVariables false
section
open List (getD replicate)
open Int (toNat tmod)
open UInt8 (ofNat)
open IntKind (wrap)
variable {i:Nat} {x c cs:Int} {s:LU} {t:LI}
theorem qCd {α:Type} [DecidableEq α] {a b:List α} (ha:i < a.length) (hb:i < b.length) (d:α):decide (a.drop i=b.drop i)=bif a.getD i d != b.getD i d then false else decide (a.drop (i+1)=b.drop (i+1)):=by
 rw[qV (d:=d) ha,qV (d:=d) hb];generalize a.getD i d=x;generalize b.getD i d=y
 by_cases h:x=y
 ·subst h;simp
 ·simp[h]
theorem qmn (c:UInt8):decide (((UInt8.toNat c:Nat):Int) < (256:Nat))=true:=by
 have:=c.toNat_lt;rw[yo];omega
theorem qCe:∀ (c0:UInt8),∃ n,qEA n c0=qEt (z228 c0):=fun c=>⟨0,by
 unfold qEA qcS qN z228 qpY orI;cases decide (c < (32:UInt8)) <;> cases (c==(127:UInt8)) <;> cases (c==(32:UInt8)) <;> cases (c==(9:UInt8)) <;> cases decide ((48:UInt8)≤c) <;> cases decide (c≤(57:UInt8)) <;> cases decide ((65:UInt8)≤c) <;> cases decide (c≤(90:UInt8)) <;> cases decide ((97:UInt8)≤c) <;> cases decide (c≤(122:UInt8)) <;> rfl⟩
theorem qCf:∀ (s0:LU) (c1:UInt8),∃ n,qLO n s0 c1=qEt (z236 s0 c1):=fun _ _=>⟨0,rfl⟩
theorem qCg:∀ (s0:LU) (c1:UInt8),∃ n,qLP n s0 c1=qEt (z216 s0 c1):=fun _ _=>⟨0,rfl⟩
theorem qCh:∀ (s0:LU) (c1:UInt8),∃ n,qLQ n s0 c1=qwM (z229 s0 c1):=fun _ _=>⟨0,rfl⟩
theorem qCi:∀ (c0:UInt8),∃ n,qEB n c0=qEt (z198 c0):=fun c=>⟨0,by
 unfold qEB qby qcT qbd z198 qzQ orI;cases decide (c < (33:UInt8)) <;> cases decide ((126:UInt8) < c) <;> cases z229 [33,42,43,45,47] c <;> cases z229 [43,47] c <;> cases z229 [40,41,60,62,64,44,59,58,92,34,47,91,93,63,61] c <;> cases z229 [42,39,37] c <;> rfl⟩
theorem qCj:∀ (c0:UInt8) (kinds1:Int),∃ n,qLR n c0 kinds1=qwM (z144 c0 kinds1):=fun _ _=>⟨0,rfl⟩
theorem qga (c:UInt8):c.toNat < 256:=c.toNat_lt
theorem qxL (cs:LU) (x:UInt8):∀ (a:List Bool),a.length=256→(setOf cs a).getD x.toNat false=(cs.contains x||a.getD x.toNat false):=by
 induction cs with
 | nil=>intro a _;simp[setOf]
 | cons c cs ih =>
  intro a hl;show (setOf cs (List.set a c.toNat true)).getD x.toNat false=_;rw[ih _ (by simpa using hl)];have hx:=qga x;have hc:=qga c
  by_cases e:c=x
  ·subst e;have:(List.set a c.toNat true).getD c.toNat false=true:=by simp[getD,hl,hc]
   rw[this];simp
  ·have hne:c.toNat≠x.toNat:=fun h=>e (UInt8.toNat_inj.1 h);have:(List.set a c.toNat true).getD x.toNat false=a.getD x.toNat false:=by simp[getD,List.getElem?_set_ne hne]
   rw[this];have hb:¬ x=c:=fun h=>e h.symm;simp[hb]
theorem dT {p:Prop} [Decidable p] (h:p):decide p=true:=yo h
theorem dF {p:Prop} [Decidable p] (h:¬ p):decide p=false:=yx h
theorem wr (h : -9223372036854775808≤x∧x≤9223372036854775807):wrap .i64 x=x:=IntWalk.i64_in x h
theorem tn (i:Nat):toNat (i:Int)=i:=Int.toNat_natCast i
theorem qu {α:Type} {l:List α} (h:l.length≤1048576):lenOk l=true:=by unfold lenOk;rw[ym];exact h
theorem qib (p:UInt8→Bool) (t:LU) (x:UInt8):dropR p (t++[x])=bif p x then dropR p t else t++[x]:=by
 unfold dropR;rw[List.reverse_append,List.reverse_singleton,List.singleton_append,List.dropWhile_cons];cases p x <;> simp
theorem qoL (cs:LU) (c:UInt8):z168 (z167 cs).1 c=cs.contains c:=by
 have:=qxL cs c (replicate 256 false) yQ;unfold z168 z167;have hc:c.toNat < 256:=c.toNat_lt;rw[this,yZ,List.getElem?_replicate,if_pos hc];exact Bool.or_false _
theorem qxM (c:UInt8):wrap .i64 ((UInt8.toNat c:Nat):Int)=((UInt8.toNat c:Nat):Int):=by
 have:=c.toNat_lt;exact IntWalk.i64_in _ (by omega)
theorem qoM:∀ i:Fin 256,0≤(z230 (ofNat i.val)).1∧(z230 (ofNat i.val)).1 < 16:=by decide +kernel
theorem qic {P:UInt8→Prop} (h:∀ i:Fin 256,P (ofNat i.val)) (c:UInt8):P c:=by
 have:=h ⟨c.toNat,c.toNat_lt⟩;simpa using this
theorem qiV (c:UInt8):0≤(z230 c).1∧(z230 c).1 < 16:=qic (P:=fun c=>0≤(z230 c).1∧(z230 c).1 < 16) qoM c
theorem qIg:∀ a b:Fin 16,ofNat (toNat (wrap .u8 (bits .or .i64 (wrap .i64 (((a.val:Nat):Int)*2 ^ (min (toNat (4:Int)) (IntKind.bits .i64)))) ((b.val:Nat):Int))))=ofNat (toNat (((a.val:Nat):Int)*16+((b.val:Nat):Int))):=by decide +kernel
theorem qIh {P:Int→Int→Prop} (h:∀ a b:Fin 16,P ((a.val:Nat):Int) ((b.val:Nat):Int)) {y:Int} (hx:0≤x∧x < 16) (hy:0≤y∧y < 16):P x y:=by
 have:=h ⟨x.toNat,by omega⟩ ⟨y.toNat,by omega⟩;simp only[Int.toNat_of_nonneg hx.1,Int.toNat_of_nonneg hy.1] at this;exact this
theorem qsv (s:LU) (at1:Int) (hl:s.length≤1048576) (h0:¬ at1 < 0) (h1:¬ wrap .i64 (((List.length s:Nat):Int) - 3) < at1):∃ i:Nat,at1=i∧i+2 < s.length:=by
 rw[IntWalk.i64_in _ (by omega)] at h1;exact⟨at1.toNat,by omega,by omega⟩
theorem qsw:∀ i:Fin 256,qiB (wrap .i64 (Int.tdiv (wrap .i64 ((UInt8.toNat (ofNat i.val):Nat):Int)) (16:Int)))=true∧qiB (tmod (wrap .i64 ((UInt8.toNat (ofNat i.val):Nat):Int)) (16:Int))=true ∧
 qdJ (wrap .i64 ((UInt8.toNat (ofNat (UInt8.toNat (ofNat i.val) / 2 ^ (min (toNat (4:Int)) 8))):Nat):Int))=true∧qdJ (wrap .i64 ((UInt8.toNat (ofNat i.val):Nat):Int))=true:=by decide +kernel
theorem qNQ (c:UInt8):qiB (wrap .i64 (Int.tdiv (wrap .i64 ((UInt8.toNat c:Nat):Int)) (16:Int)))=true∧qiB (tmod (wrap .i64 ((UInt8.toNat c:Nat):Int)) (16:Int))=true ∧
 qdJ (wrap .i64 ((UInt8.toNat (ofNat (UInt8.toNat c / 2 ^ (min (toNat (4:Int)) 8))):Nat):Int))=true∧qdJ (wrap .i64 ((UInt8.toNat c:Nat):Int))=true:=qic (P:=fun c=>qiB (wrap .i64 (Int.tdiv (wrap .i64 ((UInt8.toNat c:Nat):Int)) (16:Int)))=true∧qiB (tmod (wrap .i64 ((UInt8.toNat c:Nat):Int)) (16:Int))=true ∧
 qdJ (wrap .i64 ((UInt8.toNat (ofNat (UInt8.toNat c / 2 ^ (min (toNat (4:Int)) 8))):Nat):Int))=true∧qdJ (wrap .i64 ((UInt8.toNat c:Nat):Int))=true) qsw c
theorem beqF {a b:Int} (h:a≠b):(a==b)=false:=by simp[h]
theorem qdC {t:LI} {p:Int→Bool} {k0:OA} {ret:Int→OA} {L:Nat→Int→OA} (hl:t.length≤1048576)
 (hL:∀ n (i:Nat),i < t.length→L (n+1) (i:Int)=bif p (t.getD i 0) then L n ((i+1:Nat):Int) else ret (i:Int)) (hE:∀ n,L (n+1) (t.length:Nat)=k0) :
 ∀ d i n:Nat,i+d=t.length→d < n→L n (i:Int)=bif qI p (t.drop i) i == -1 then k0 else ret (qI p (t.drop i) i)
 | d,i,0,hi,hn=>by omega
 | 0,i,n+1,hi,hn=>by
  obtain rfl:i=t.length:=by omega
  rw[hE,yA (by omega)];rfl
 | d+1,i,n+1,hi,hn=>by
  have hlt:i < t.length:=by omega
  rw[hL n i hlt,qdC hl hL hE d (i+1) n (by omega) (by omega),qV (d:=(0:Int)) hlt];rw[show qI p (t.getD i 0 :: t.drop (i+1)) (i:Int)=bif p (t.getD i 0) then qI p (t.drop (i+1)) ((i+1:Nat):Int) else (i:Int) from rfl];cases p (t.getD i 0) with
  | true=>rfl
  | false =>
   have:((i:Int) == -1)=false:=by simp only[yB,ne_eq];omega
   simp[this]
theorem qCk:∀ (n0:Int),∃ n,qEN n n0=qjX (z185 n0):=fun c=>⟨0,by
 unfold qEN z185;cases (c==(2:Int)) <;> cases (c==(3:Int)) <;> cases (c==(4:Int)) <;> rfl⟩
theorem qCl:∃ n,qLW n  = qxf z176:=⟨0,rfl⟩
theorem qCm:∃ n,qEK n  = qxg z177:=⟨0,rfl⟩
theorem qxN {α β:Type} (f:α→β) (t:List α) (z:β) (i:Nat) (h:i < t.length) (d:α) :
 ((t.take i).map f++replicate (t.length - i) z).set i (f (t.getD i d))=(t.take (i+1)).map f++replicate (t.length - (i+1)) z:=by
 rw[List.set_append_right _ _ (by simp;omega)];have h1:((t.take i).map f).length=i:=by simp;omega
 rw[h1,Nat.sub_self,show t.length - i=(t.length - (i+1))+1 by omega,List.replicate_succ,List.set_cons_zero,List.take_succ_eq_append_getElem h,List.map_append,yl];simp[getD,h]
theorem qoN (x:UInt8):wrap .i32 ((UInt8.toNat x:Nat):Int)=((UInt8.toNat x:Nat):Int):=IntWalk.i32_in _ (by have:=x.toNat_lt;omega)
theorem qfK {α β:Type} {t:List α} {dv:α} {f:α→List β} {q:α→Bool} {k0:List β→OA} {R:OA} {L:Nat→List β→Int→OA} {b:Nat} (hf:∀ x,(f x).length≤b)
 (hL:∀ (n i:Nat) (out:List β),i < t.length→out.length+b≤room→L (n+1) out (i:Int)=bif q (t.getD i dv) then L n (out++f (t.getD i dv)) ((i+1:Nat):Int) else R) (hE:∀ n out,L (n+1) out ((t.length:Nat):Int)=k0 out) :
 ∀ (d i n:Nat) (out:List β),i+d=t.length→d < n→out.length+b*d≤room→L n out (i:Int)=bif (t.drop i).all q then k0 (out++(t.drop i).flatMap f) else R
 | d,i,0,out,hi,hn,_=>by omega
 | 0,i,n+1,out,hi,hn,_=>by
  obtain rfl:i=t.length:=by omega
  rw[hE,yA (by omega)];simp
 | d+1,i,n+1,out,hi,hn,hb=>by
  have hlt:i < t.length:=by omega
  have hx:=hf (t.getD i dv);have hb':b*(d+1)=b*d+b:=by rw[Nat.mul_succ]
  have h0:0≤b*d:=Nat.zero_le _;rw[hL n i out hlt (by omega),qfK (α:=α) (β:=β) hf hL hE d (i+1) n _ (by omega) (by omega) (by rw[yn];omega),qV (d:=dv) hlt];simp only[List.all_cons,List.flatMap_cons,yl];cases q (t.getD i dv) <;> rfl
theorem qoO {α β:Type} (f:α→β):∀ l:List α,l.flatMap (fun x=>[f x])=l.map f
 | []=>rfl
 | x :: r=>by rw[List.flatMap_cons,qoO f r];rfl
theorem qoP {α:Type}:∀ l:List α,l.all (fun _=>true)=true
 | []=>rfl
 | _ :: r=>by rw[List.all_cons,qoP r];rfl
theorem qgG (h:i < s.length):s.drop i=s.getD i 0 :: s.drop (i+1):=by
 rw[List.drop_eq_getElem_cons h,yZ,yO h];rfl
theorem qqT (c:UInt8):qb c≤4:=by
 unfold qb;cases decide (c < 128) <;> cases decide (c < 194)||decide (244 < c) <;> cases decide (c < 224) <;> cases decide (c < 240) <;> decide
theorem qIi:∀ (c0:Int),∃ n,qMl n c0=qwM (z77 c0):=fun c=>⟨0,by
 unfold qMl z77;cases decide ((55296:Int)≤c) <;> rfl⟩
theorem qIj:∀ (c0:Int),∃ n,qMm n c0=qwM (z36 c0):=fun c=>⟨0,by
 unfold qMm z36;cases decide ((0:Int)≤c) <;> cases decide (c≤(1114111:Int)) <;> rfl⟩
theorem qid {p:Int→Bool} {k0:OA} {ret:Int→OA} {x:OA} (h:x=bif qI p (t.drop 0) (0:Nat) == -1 then k0 else ret (qI p (t.drop 0) (0:Nat))) (hk:k0=ret (-1)):x=ret (qI p t 0):=by
 rw[h,yw];cases e:(qI p t (0:Nat) == -1) with
 | true =>
  rw[beq_iff_eq] at e;have e':qI p t 0 = -1:=e;rw[e',hk];rfl
 | false=>rfl
theorem qmo (c:Int):z184 c=0∨z184 c=1∨z184 c=2∨z184 c=3∨z184 c=4:=by
 unfold z184;cases z161 c <;> cases decide (c < (128:Int)) <;> cases decide (c < (2048:Int)) <;> cases decide (c < (65536:Int)) <;> simp
theorem qaX {α β:Type} (g:α→β):∀ l:List α,l.flatMap (fun x=>[g x])=l.map g
 | []=>rfl
 | x :: r=>by rw[List.flatMap_cons,qaX g r];rfl
theorem qxO (c:Int):(z126 [] c).1.length≤4:=by
 unfold z126;rcases qmo c with e | e | e | e | e <;> rw[e] <;> simp
theorem qie (h:i32s t=true) (hc:c∈t) : -2147483648≤c∧c≤2147483647:=by
 unfold i32s at h;rw[List.all_eq_true] at h;simpa using h c hc
theorem qMq (h : -2147483648≤c∧c≤2147483647):wrap .u32 c=if 0≤c then c else c+4294967296:=by
 by_cases h0:0≤c
 ·rw[if_pos h0,IntWalk.u32_in c (by omega)]
 ·rw[if_neg h0];have:wrap .u32 c=c % 4294967296:=rfl;rw[this];omega
theorem qkp (h : -2147483648≤c∧c≤2147483647):z161 c=z36 c:=by
 unfold z161 z36;rw[show z77 c=z211 c from rfl,← Bool.and_assoc,qMq h];congr 1;rw[Bool.eq_iff_iff];simp only[yf,ym];split <;> omega
theorem qoQ (h : -2147483648≤c∧c≤2147483647):z158 c=(z132 c).2:=by
 unfold z158 z132;rw[qMq h];have:decide ((if 0≤c then c else c+4294967296) < 256)=(decide (0≤c)&&decide (c < 256)):=by
  rw[Bool.eq_iff_iff];simp only[yf,ym];split <;> omega
 rw[this];cases (decide (0≤c)&&decide (c < 256)) <;> rfl
theorem qNR (cs:Int) (h : -2147483648≤c∧c≤2147483647):z105 cs c=z131 cs c:=by
 unfold z105 z131;rw[qoQ h,qkp h];rfl
theorem qoR (p:Int→Bool):∀ (t:LI) (i:Int),0≤i→(qI p t i = -1∧t.all p=true)∨(0≤qI p t i∧t.all p=false)
 | [],_,_=>.inl ⟨rfl,rfl⟩
 | x :: r,i,hi=>by
  rw[show qI p (x :: r) i=bif p x then qI p r (i+1) else i from rfl,List.all_cons];cases p x with
  | true=>simpa using qoR p r (i+1) (by omega)
  | false=>exact .inr ⟨hi,rfl⟩
theorem qoS (p:Int→Bool) (t:LI):(qI p t 0 == -1)=t.all p:=by
 rcases qoR p t 0 (by omega) with ⟨h1,h2⟩ | ⟨h1,h2⟩
 ·rw[h1,h2];rfl
 ·rw[h2,beqF (by omega)]
theorem qxP (p:Int→Bool) (t:LI):(qI p t 0 != -1) = !(t.all p):=by rw[← qoS];rfl
theorem qFs (p:Int→Bool) (t:LI):decide (0≤qI p t 0) = !(t.all p):=by
 rcases qoR p t 0 (by omega) with ⟨h1,h2⟩ | ⟨h1,h2⟩
 ·rw[h1,h2];rfl
 ·rw[h2,dT h1];rfl
theorem qMr {p q:Int→Bool} (h:∀ c∈t,p c=q c):t.all p=t.all q:=by
 rw[Bool.eq_iff_iff,List.all_eq_true,List.all_eq_true];exact⟨fun k c hc=>by rw[← h c hc];exact k c hc,fun k c hc=>by rw[h c hc];exact k c hc⟩
theorem qbF {f g:Int→LU}:∀ {t:LI},(∀ c∈t,f c=g c)→t.flatMap f=t.flatMap g
 | [],_=>rfl
 | x :: r,h=>by rw[List.flatMap_cons,List.flatMap_cons,h x (by simp),qbF fun c hc=>h c (by simp[hc])]
theorem lead2:∀ i:Fin 32,(192:UInt8) ||| oct8 ((i.val:Nat):Int)=oct8 (192+((i.val:Nat):Int)):=by decide +kernel
theorem lead3:∀ i:Fin 16,(224:UInt8) ||| oct8 ((i.val:Nat):Int)=oct8 (224+((i.val:Nat):Int)):=by decide +kernel
theorem lead4:∀ i:Fin 8,(240:UInt8) ||| oct8 ((i.val:Nat):Int)=oct8 (240+((i.val:Nat):Int)):=by decide +kernel
theorem qxQ:∀ i:Fin 256,foll ((i.val:Nat):Int)=oct8 (128+((i.val:Nat):Int) % 64):=by decide +kernel
theorem qIk (n:Int):oct8 n=oct8 (n % 256):=by
 unfold oct8;have:wrap .u8 n=n % 256:=rfl;have h2:wrap .u8 (n % 256)=n % 256 % 256:=rfl;rw[this,h2];congr 1;congr 1;omega
theorem qMs (n:Int):foll n=oct8 (128+n % 64):=by
 have h:=qxQ ⟨(n % 256).toNat,by omega⟩;simp only[Int.toNat_of_nonneg (show 0≤n % 256 by omega)] at h;rw[show n % 256 % 64=n % 64 by omega] at h;rw[← h];unfold foll;rw[← qIk]
theorem qNS (h:z36 c=true) (h32 : -2147483648≤c∧c≤2147483647):(z126 [] c).1=z135 c:=by
 have hs:=(qkp h32).trans h;have hr:0≤c∧c≤1114111:=by
  unfold z36 at h;simp only[yf,ym] at h;exact⟨h.1,h.2.1⟩
 unfold z126 z184 z135;rw[hs,h];simp only[Bool.not_true,yd,qMs,Int.fdiv_eq_ediv_of_nonneg _ (show (0:Int)≤2 ^ 18 by decide),Int.fdiv_eq_ediv_of_nonneg _ (show (0:Int)≤2 ^ 12 by decide),Int.fdiv_eq_ediv_of_nonneg _ (show (0:Int)≤2 ^ 6 by decide),Int.fdiv_eq_ediv_of_nonneg _ (show (0:Int)≤2 ^ 0 by decide)];rw[show (2:Int) ^ 18=262144 from rfl,show (2:Int) ^ 12=4096 from rfl,show (2:Int) ^ 6=64 from rfl,show (2:Int) ^ 0=1 from rfl,Int.ediv_one]
 by_cases h1:c < 128
 ·rw[dT h1];show [(0:UInt8) ||| oct8 c]=[oct8 c];rw[UInt8.zero_or]
 ·rw[dF h1]
  by_cases h2:c < 2048
  ·rw[dT h2];have:=lead2 ⟨(c / 64).toNat,by omega⟩;simp only[Int.toNat_of_nonneg (show 0≤c / 64 by omega)] at this;show [(192:UInt8) ||| oct8 (c / 64),oct8 (128+c % 64)]=_;rw[this];rfl
  ·rw[dF h2]
   by_cases h3:c < 65536
   ·rw[dT h3];have:=lead3 ⟨(c / 4096).toNat,by omega⟩;simp only[Int.toNat_of_nonneg (show 0≤c / 4096 by omega)] at this;show [(224:UInt8) ||| oct8 (c / 4096),oct8 (128+c / 64 % 64),oct8 (128+c % 64)]=_;rw[this];rfl
   ·rw[dF h3];have:=lead4 ⟨(c / 262144).toNat,by omega⟩;simp only[Int.toNat_of_nonneg (show 0≤c / 262144 by omega)] at this;show [(240:UInt8) ||| oct8 (c / 262144),oct8 (128+c / 4096 % 64),oct8 (128+c / 64 % 64),oct8 (128+c % 64)]=_;rw[this];rfl
theorem qCn (h:cs=1∨cs=2∨cs=3∨cs=4∨cs=5):((z71 cs c).length != 0)=z131 cs c:=by
 unfold z71;cases hh:z131 cs c with
 | false=>rfl
 | true =>
  rcases h with rfl | rfl | rfl | rfl | rfl
  ·rfl
  ·rfl
  ·rfl
  ·rfl
  ·have h3:z36 c=true:=hh;show ((z135 c).length != 0)=true;unfold z135;rw[h3];cases decide (c < (128:Int)) <;> cases decide (c < (2048:Int)) <;> cases decide (c < (65536:Int)) <;> rfl
theorem qMt (h:cs=1∨cs=2∨cs=3∨cs=4∨cs=5):0 < z65 cs:=by
 rcases h with rfl | rfl | rfl | rfl | rfl <;> decide
theorem qNT (cs:Int) (t:LI) (h:i32s t=true):z31 cs t=z32 cs t:=by
 by_cases hcs:cs=1∨cs=2∨cs=3∨cs=4∨cs=5
 ·have hsz:=qMt hcs;unfold z31 z32 z66 z124;rw[beqF (show z65 cs≠0 by omega),dT hsz,qoS,dF (show ¬ cs < 1 by omega),dF (show ¬ 5 < cs by omega),qMr (q:=z131 cs) (fun c hc=>qNR cs (qie h hc)),qMr (p:=fun c=>(z71 cs c).length != 0) (q:=z131 cs) (fun c _=>qCn hcs)];cases ha:t.all (z131 cs) with
  | false=>rfl
  | true =>
   rw[List.all_eq_true] at ha;show (bif cs==5 then z67 t else _)=(t.flatMap (z71 cs),0);rcases hcs with rfl | rfl | rfl | rfl | rfl
   ·show z70 t=_;have h2:t.all z158=true:=List.all_eq_true.2 fun c hc=>by
     have:=ha c hc;rw[qoQ (qie h hc)];unfold z132;have h3:(decide (0≤c)&&decide (c < 128))=true:=this;simp only[yf,ym] at h3;rw[dT h3.1,dT (show c < 256 by omega)];rfl
    unfold z70 z130;rw[qxP,h2];show (t.map _,(0:Int))=_;rw[← qaX];congr 1;exact qbF fun c hc=>by
     unfold z71;rw[ha c hc];rfl
   ·show z70 t=_;have h2:t.all z158=true:=List.all_eq_true.2 fun c hc=>by rw[qoQ (qie h hc)];exact ha c hc
    unfold z70 z130;rw[qxP,h2];show (t.map _,(0:Int))=_;rw[← qaX];congr 1;exact qbF fun c hc=>by
     have h3:(z132 c).2=true:=ha c hc;unfold z71;rw[ha c hc];show _=[(z132 c).1];unfold z132 at h3 ⊢;cases h4:(decide (0≤c)&&decide (c < 256)) with
     | false=>rw[h4] at h3;cases h3
     | true =>
      simp only[yf,ym] at h4;rw[IntWalk.u8_in c (by omega)];rfl
   ·show z68 t=_;unfold z68;rw[show t.all z159=true from List.all_eq_true.2 ha];show (t.map _,(0:Int))=_;rw[← qaX];congr 1;exact qbF fun c hc=>by
     unfold z71;rw[ha c hc];rfl
   ·show z69 t=_;unfold z69 z128;rw[qFs,show t.all z160=true from List.all_eq_true.2 ha];show (t.map _,(0:Int))=_;rw[← qaX];congr 1;exact qbF fun c hc=>by
     unfold z71;rw[ha c hc];rfl
   ·show z67 t=_;unfold z67 z125;rw[qoS,show t.all z161=true from List.all_eq_true.2 fun c hc=>(qkp (qie h hc)).trans (ha c hc)];show (t.flatMap _,(0:Int))=_;congr 1;exact qbF fun c hc=>by
     have h3:z36 c=true:=ha c hc;unfold z71;rw[ha c hc,qNS h3 (qie h hc)];rfl
 ·simp only[not_or] at hcs;obtain⟨h1,h2,h3,h4,h5⟩:=hcs;unfold z31 z32 z65;simp only[beqF h1,beqF h2,beqF h3,beqF h4,beqF h5,yd];rw[show (decide (cs < 1)||decide (5 < cs))=true by simp;omega];rfl
theorem qmp (ret:Int→OA) (k0:OA) (t:LI) (hl:t.length≤1048576):∀ (d i n:Nat),i+d=t.length→d < n →
 qst ret k0 n t (i:Int)=bif decide (qI z36 (t.drop i) (i:Int) < 0) then k0 else ret (qI z36 (t.drop i) (i:Int))
 | d,i,0,hi,hn=>by omega
 | 0,i,n+1,hi,hn=>by
  obtain rfl:i=t.length:=by omega
  show qfH _ _ _ n _ _=_;unfold qfH;rw[dF (by omega),List.drop_length];rfl
 | d+1,i,n+1,hi,hn=>by
  have hlt:i < t.length:=by omega
  show qfH _ _ _ n _ _=_;unfold qfH;have hg:t.getD i 0=t[i]:=by rw[yZ,yO hlt];rfl
  rw[tn,hg,dT (show (i:Int) < ((t.length:Nat):Int) by omega),dT (show (0:Int)≤(i:Int) by omega),qm (by omega),List.drop_eq_getElem_cons hlt];have hstep:qI z36 (t[i] :: t.drop (i+1)) (i:Int)=bif z36 t[i] then qI z36 (t.drop (i+1)) ((i:Int)+1) else (i:Int):=rfl
  rw[hstep];have ih:=qmp ret k0 t hl d (i+1) n (by omega) (by omega);cases z36 t[i] with
  | true =>
   simp only[Bool.not_true,yc,yd,yi];exact ih
  | false =>
   simp only[Bool.not_false,yc,yd,yi];rw[dF (show ¬ (i:Int) < 0 by omega)];rfl
theorem qqU (p:Int→Bool):∀ (t:LI) (i:Int),0≤i→qI p t i < 0→qI p t i = -1
 | [],_,_,_=>rfl
 | x :: r,i,hi,h=>by
  have e:qI p (x :: r) i=bif p x then qI p r (i+1) else i:=rfl
  rw[e] at h ⊢;cases hp:p x with
  | true=>rw[hp] at h;exact qqU p r (i+1) (by omega) h
  | false=>rw[hp] at h;exact absurd (show i < 0 from h) (by omega)
theorem qIl:∀ (t0:LI),(qEb t0=true)→∃ n,qCa n t0=qEt (z18 t0):=fun t h=>⟨1048577,by
 have hl:=qd (show lenOk t=true from h);unfold qCa z18;have e:=qmp qEt (qoG 1048577) t hl t.length 0 1048577 (yE _) (by omega);rw[yw] at e;refine e.trans ?_
 by_cases hn:qI z36 t ((0:Nat):Int) < 0
 ·rw[dT hn];have:=qqU z36 t ((0:Nat):Int) (by omega) hn;show qEt (-1)=qEt (qI z36 t 0);rw[show qI z36 t 0 = -1 from this]
 ·rw[dF hn];rfl⟩
theorem qqV {f:Int→LU} (h:∀ c,(f c).length≤4):∀ t:LI,(t.flatMap f).length≤4*t.length
 | []=>by simp
 | c :: t=>by
  have h1:=qqV h t;have h2:=h c;rw[List.flatMap_cons,yn,yg];omega
theorem qCo (t:LI):(z70 t).1.length≤t.length:=by
 unfold z70;cases z130 t != -1 <;> simp
theorem qmq (cs:Int) (t:LI):(z31 cs t).1.length≤4*t.length:=by
 have h1:(z67 t).1.length≤4*t.length:=by
  unfold z67;have:=qqV qxO t;cases !(z125 t) with
  | true=>exact Nat.zero_le _
  | false=>exact this
 have h2:(z68 t).1.length≤4*t.length:=by
  unfold z68;cases t.all z159 <;> simp <;> omega
 have h3:(z69 t).1.length≤4*t.length:=by
  unfold z69;cases decide (0≤z128 t) <;> simp <;> omega
 have h4:(z70 t).1.length≤4*t.length:=by
  have:=qCo t;omega
 unfold z31;cases (z65 cs==0) <;> cases z66 cs t <;> cases (cs==(5:Int)) <;> cases (cs==(3:Int)) <;> cases (cs==(4:Int)) <;> first | exact Nat.zero_le _ | assumption
structure PutI (name cs:LU) (i:Nat) (st:PutT):Prop where
 e:st.1=true→i=0
 n:st.2.2.length+(bif st.1 then 0 else 1)≤i
 l:st.2.1.length≤name.length+cs.length+100
 l0:st.1=true→st.2.1.length≤name.length+cs.length+7
theorem qcw (ret:List Bool→Bool→OA) (k0:List Bool→OA) (cs:LU) (ha:ascii cs=true) (hl:cs.length≤1048576):∀ (d i n:Nat) (a:List Bool),i+d=cs.length→d < n →
 qfV ret k0 n cs a (i:Nat)=k0 (setOf (cs.drop i) a)
 | d,i,0,a,hi,hn=>by omega
 | 0,i,n+1,a,hi,hn=>by
  show qdq ret k0 (qfV ret k0 n) n cs a _=_;unfold qdq;rw[yx (by omega),yd,yA (by omega)];rfl
 | d+1,i,n+1,a,hi,hn=>by
  show qdq ret k0 (qfV ret k0 n) n cs a _=_;unfold qdq;have hlt:i < cs.length:=by omega
  have hc:decide ((128:UInt8)≤getD cs i 0)=false:=by
   unfold ascii at ha;rw[List.all_eq_true] at ha;have:=ha (cs.getD i 0) (by simp[getD,hlt]);rw[decide_eq_false_iff_not];simp only[ym] at this;exact UInt8.not_le.2 this
  rw[qkF,yo hlt,yc,qak,y7,yc,qaZ,hc,yd,qak,qmn,y7,yc,qm (by omega),
   qcw ret k0 cs ha hl d (i+1) n _ (by omega) (by omega),qV (d:=0) hlt]
  rfl
theorem qCp:∀ (chars0:LU),(qdK chars0=true)→∃ n,qwN n chars0=qhB (z167 chars0).1 (z167 chars0).2:=fun cs h=>⟨cs.length+1,by
 unfold qdK at h;rw[yf] at h;exact qcw qhB (qjW (cs.length+1)) cs h.1 (qd h.2) cs.length 0 (cs.length+1) _ (by omega) (by omega)⟩
theorem qCq:∀ (as0:List Bool) (c1:UInt8),∃ n,qEu n as0 c1=qwM (z168 as0 c1):=fun as c=>⟨0,by
 unfold qEu;rw[qak,qmn];rfl⟩
theorem qCr:∀ (s0:LU) (c1:UInt8),(quf s0 c1=true)→∃ n,qwS n s0 c1=qwR (z206 s0 c1):=fun _ _ h=>by cases h
theorem qmr (k0:LU→OA) (as:List Bool):∀ (d:Nat) (s:LU) (n:Nat),s.length=d→d < n→s.length≤1048576 →
 qhF k0 n s as=k0 (z208 s as)
 | d,s,0,hd,hn,hl=>by omega
 | d,s,n+1,hd,hn,hl=>by
  show qgA k0 (qhF k0 n) n s as=_;unfold qgA qax z208;rcases List.eq_nil_or_concat s with rfl | ⟨t,x,rfl⟩
  ·rfl
  ·rw[List.concat_eq_append] at *
   have hlen:(t++[x]).length=t.length+1:=by simp
   have ih:=qmr k0 as t.length t n rfl (by omega) (by omega);have hg:(t++[x]).getD (toNat (((t++[x]).length:Int) - 1)) 0=x:=by
    rw[show toNat (((t++[x]).length:Int) - 1)=t.length by omega];simp
   have ht:List.take (toNat (((t++[x]).length:Int) - 1)) (t++[x])=t:=by
    rw[show toNat (((t++[x]).length:Int) - 1)=t.length by omega];simp
   simp (disch:=omega) only [wr,dT,yc,yi,hg,ht,qib];cases z168 as x with
   | true=>simpa [z208] using ih
   | false=>rfl
theorem qCs:∀ (s0:LU) (as1:List Bool),(qlw s0 as1=true)→∃ n,qqu n s0 as1=qwR (z208 s0 as1):=fun s as h=>⟨s.length+1,by
 unfold qqu;rw[qmr _ as s.length s _ rfl (by omega) (qd h)];rfl⟩
theorem qCt:∀ (c0:UInt8),∃ n,qEC n c0=qjX (z154 c0):=fun c=>⟨0,by
 unfold qEC z154;cases decide ((65:UInt8)≤c) <;> cases decide (c≤(90:UInt8)) <;> rfl⟩
theorem qCu:∀ (a0:LU) (b1:LU),∃ n,qLN n a0 b1=qwM (z194 a0 b1):=fun _ _=>⟨0,rfl⟩
theorem qCv:∀ (c0:UInt8),∃ n,qED n c0=qhG (z230 c0).1 (z230 c0).2:=fun c=>⟨0,by
 unfold qED z230;have h:=(z154 c - 97).toNat_lt;rw[qxM,qxM,IntWalk.i64_in (((z154 c - 97).toNat:Int)+10) (by omega)];cases z144 (z154 c) 8 <;> cases decide ((97:UInt8)≤z154 c) <;> cases decide (z154 c≤(102:UInt8)) <;> rfl⟩
theorem qCw:∀ (a0:UInt8) (b1:UInt8),∃ n,qEE n a0 b1=qjY (z199 a0 b1).1 (z199 a0 b1).2:=fun a b=>⟨0,by
 unfold qEE z199;have h:=qIh (P:=fun x y=>ofNat (toNat (wrap .u8 (bits .or .i64 (wrap .i64 (x*2 ^ (min (toNat (4:Int)) (IntKind.bits .i64)))) y)))=ofNat (toNat (x*16+y))) qIg (qiV a) (qiV b);rw[← h];cases (z230 a).2 <;> cases (z230 b).2 <;> rfl⟩
theorem qCx:∀ (s0:LU) (at1:Int) (sign2:UInt8),(qiC s0 at1 sign2=true)→∃ n,qEF n s0 at1 sign2=qjY (z145 s0 at1 sign2).1 (z145 s0 at1 sign2).2:=fun s at1 sign h=>⟨0,by
 have hl:=qd h;unfold qEF qhI z145
 by_cases h0:at1 < 0
 ·rw[yo h0,yx (show ¬ 0≤at1 by omega)];rfl
 by_cases h1:wrap .i64 (((List.length s:Nat):Int) - 3) < at1
 ·have h2:¬ at1≤(s.length:Int) - 3:=by rw[IntWalk.i64_in _ (by omega)] at h1;omega
  rw[yx h0,yo h1,yx h2,Bool.and_false];rfl
 obtain⟨i,rfl,hi⟩:=qsv s at1 hl h0 h1;rw[yx h0,yx h1,yd,yd,qak,qkF,yo (show i < s.length by omega),yi,yc,qaZ,qm (by omega),
  show wrap .i64 ((i:Int)+2)=((i+2:Nat):Int) by rw[IntWalk.i64_in _ (by omega)];omega,qak,qak,qkF,qkF,yo (show i+1 < s.length by omega),yo hi,qaZ,qaZ,
  yo (show (i:Int)≤(s.length:Int) - 3 by omega),yi,yc]
 unfold qlp;cases he:(getD s i 0==sign) with
 | true=>rw[show (getD s i 0 != sign)=false by simp only[bne,he,Bool.not_true]];rfl
 | false=>rw[show (getD s i 0 != sign)=true by simp only[bne,he,Bool.not_false]];rfl⟩
theorem qCy:∀ (s0:LU) (suffix1:LU),(qiE s0 suffix1=true)→∃ n,qEx n s0 suffix1=qwM (z215 s0 suffix1):=fun s t h=>⟨0,by
 have hl:=qd h;unfold qEx z215
 by_cases hc:t.length≤s.length
 ·have e:wrap .i64 ((s.length:Int) - (t.length:Int))=((s.length - t.length:Nat):Int):=by rw[IntWalk.i64_in _ (by omega)];omega
  rw[e,tn,tn,List.take_length,dT hc];simp (disch:=omega) only [dT,yc,yi];rfl
 ·rw[dF hc,dF (by omega)];rfl⟩
theorem qIm:∀ (b0:LU) (c1:UInt8),∃ n,qNN n b0 c1=qEt (z80 b0 c1):=fun _ _=>⟨0,rfl⟩
theorem qxR (m:Nat) (s:LU) (hl:s.length≤1048576):∀ (d i n:Nat),i+d=s.length→d < n →
 qsl (qou m) n ((s.take i).map (fun c:UInt8=>(c.toNat:Int))++replicate (s.length - i) 0) s (s.length:Nat) (i:Nat)=qxd (s.map fun c:UInt8=>(c.toNat:Int))
 | d,i,0,hi,hn=>by omega
 | 0,i,n+1,hi,hn=>by
  obtain rfl:i=s.length:=by omega
  show qfs _ _ n _ _ _ _=_;unfold qfs;rw[dF (by omega),Nat.sub_self,List.take_length];simp only[yd,List.replicate_zero,yG];rfl
 | d+1,i,n+1,hi,hn=>by
  show qfs _ _ n _ _ _ _=_;unfold qfs;have hlen:((s.take i).map (fun c:UInt8=>(c.toNat:Int))++replicate (s.length - i) (0:Int)).length=s.length:=by
   rw[yn,yP,yz,yQ];omega
  rw[hlen];simp (disch:=omega) only [dT,yc,yi,tn,qm];rw[qoN,qxN (fun c:UInt8=>((UInt8.toNat c:Nat):Int)) s 0 i (by omega) 0];exact qxR m s hl d (i+1) n (by omega) (by omega)
theorem qIn:∀ (s0:LU),(qrO s0=true)→∃ n,qBO n s0=qxd (z59 s0):=fun s h=>⟨s.length+1,by
 have hl:=qd h;unfold qBO;have hr:((s.length:Nat):Int)≤(room:Int):=by unfold room;omega
 simp (disch:=omega) only [dT,yc,yi,tn];have:=qxR (s.length+1) s hl s.length 0 (s.length+1) (by omega) (by omega);exact this⟩
theorem qCz:∀ (c0:Int),∃ n,qEI n c0=qov (z114 c0):=fun c=>⟨0,by
 unfold qEI z114;cases decide (128≤c) <;> rfl⟩
theorem qms (m:Nat) (t:LI) (hl:t.length≤1048576):∀ (d i n:Nat),i+d=t.length→d < n →
 qsm (qow m) n ((t.take i).map z114++t.drop i) (t.length:Nat) (i:Nat)=qxd (t.map z114)
 | d,i,0,hi,hn=>by omega
 | 0,i,n+1,hi,hn=>by
  obtain rfl:i=t.length:=by omega
  show qft _ _ n _ _ _=_;unfold qft;rw[dF (by omega),List.drop_length,List.take_length,yG];rfl
 | d+1,i,n+1,hi,hn=>by
  show qft _ _ n _ _ _=_;unfold qft;have hlt:i < t.length:=by omega
  have hml:((t.take i).map z114).length=i:=by rw[yP,yz];omega
  have hlen:((t.take i).map z114++t.drop i).length=t.length:=by
   rw[yn,hml,yK];omega
  rw[hlen];simp (disch:=omega) only [dT,yc,yi,tn,qm];have hg:((t.take i).map z114++t.drop i).getD i 0=t[i]:=by
   rw[yZ,yN (by omega),hml,Nat.sub_self,List.getElem?_drop,Nat.add_zero,yO hlt];rfl
  have hs:((t.take i).map z114++t.drop i).set i (z114 t[i])=(t.take (i+1)).map z114++t.drop (i+1):=by
   rw[List.set_append_right _ _ (by omega),hml,Nat.sub_self,List.drop_eq_getElem_cons hlt,List.set_cons_zero,List.take_succ_eq_append_getElem hlt,List.map_append,yl];rfl
  rw[hg,hs];exact qms m t hl d (i+1) n (by omega) (by omega)
theorem qIo:∀ (s0:LU),(qzN s0=true)→∃ n,qBP n s0=qxd (z55 s0):=fun s h=>⟨s.length+1,by
 have hl:=qd h;unfold qBP;rw[show qrO s=true from h];have hlen:(z59 s).length=s.length:=by unfold z59;rw[yP]
 have:=qms (s.length+1) (z59 s) (by omega) s.length 0 (s.length+1) (by omega) (by omega);have e:(z59 s).map z114=z55 s:=by
  unfold z59 z55;rw[List.map_map];rfl
 rw[e] at this;exact this⟩
theorem qCA:∀ (x0:UInt8),∃ n,qqz n x0=qov (z115 x0):=fun x=>⟨9,by
 have e:qqz 9 x=bif (164:UInt8)==x then qov 8364 else bif (166:UInt8)==x then qov 352 else bif (168:UInt8)==x then qov 353 else bif (180:UInt8)==x then qov 381
  else bif (184:UInt8)==x then qov 382 else bif (188:UInt8)==x then qov 338 else bif (189:UInt8)==x then qov 339 else bif (190:UInt8)==x then qov 376 else qov (wrap .i32 ((UInt8.toNat x:Nat):Int)):=by rfl
 rw[e,qoN];unfold z115 z90;have hc:∀ k:UInt8,(k==x)=(x==k):=fun k=>by
  cases h:x==k with
  | true=>rw[beq_iff_eq] at h;subst h;simp
  | false=>rw[yB] at h ⊢;exact fun e=>h e.symm
 simp only[hc];cases (x==(164:UInt8)) <;> cases (x==(166:UInt8)) <;> cases (x==(168:UInt8)) <;> cases (x==(180:UInt8)) <;> cases (x==(184:UInt8)) <;> cases (x==(188:UInt8)) <;> cases (x==(189:UInt8)) <;> cases (x==(190:UInt8)) <;> rfl⟩
theorem qIp:∀ (s0:LU),(qzL s0=true)→∃ n,qBQ n s0=qxd (z56 s0):=fun s h=>⟨s.length+1,by
 have hl:=qd h;unfold qBQ;have:=qfK (t:=s) (dv:=0) (f:=fun c=>[z115 c]) (q:=fun _=>true) (b:=1) (k0:=qka (s.length+1)) (R:=none)
  (L:=fun n out i=>qsn (qka (s.length+1)) n out s (s.length:Nat) i) (fun x=>yv 1) (fun n i out hi hb=>by
   show qfu _ _ n _ _ _ _=_;unfold qfu;have hr:out.length+([z115 (s.getD i 0)]:LI).length≤room:=hb;simp (disch:=omega) only [dT,yc,yi,tn,qm];all_goals (rw[dT hr])
   all_goals rfl) (fun n out=>by
   show qfu _ _ n _ _ _ _=_;unfold qfu;rw[dF (by omega)];rfl) s.length 0 (s.length+1) [] (by omega) (by omega) (by show 0+_≤room;unfold room;omega)
 rw[yw,qoP,yc,List.nil_append,qoO] at this;exact this⟩
theorem qIq:∀ (s0:LU),(qzM s0=true)→∃ n,qBR n s0=qxd (z57 s0):=fun s h=>⟨s.length+1,by
 have hl:=qd h;unfold qBR;have hr:((s.length:Nat):Int)≤(room:Int):=by unfold room;omega
 have:=qfK (t:=s) (dv:=0) (f:=fun c=>[z116 c]) (q:=fun _=>true) (b:=1) (k0:=qkb (s.length+1)) (R:=none)
  (L:=fun n out i=>qso (qkb (s.length+1)) n out s (s.length:Nat) i) (fun x=>yv 1) (fun n i out hi hb=>by
   show qfv _ _ n _ _ _ _=_;unfold qfv;have hr:out.length+([z116 (s.getD i 0)]:LI).length≤room:=hb;simp (disch:=omega) only [dT,yc,yi,tn,qm];all_goals (rw[dT hr])
   all_goals rfl) (fun n out=>by
   show qfv _ _ n _ _ _ _=_;unfold qfv;rw[dF (by omega)];rfl) s.length 0 (s.length+1) [] (by omega) (by omega) (by show 0+_≤room;unfold room;omega)
 rw[yw,qoP,yc,List.nil_append,qoO] at this;simp (disch:=omega) only [dT,yc,yi];exact this⟩
theorem qIr:∀ (charset0:Int) (s1:LU),(qlr charset0 s1=true)→∃ n,qLX n charset0 s1=qxg (z29 charset0 s1):=fun cs s h=>⟨0,by
 have h':lenOk s=true:=h;unfold qLX z29;rw[show qzN s=true from h',show qzL s=true from h',show qzM s=true from h',show qzK s=true from h',show qrO s=true from h'];cases (cs==(1:Int)) <;> cases (cs==(3:Int)) <;> cases (cs==(4:Int)) <;> cases (cs==(5:Int)) <;> rfl⟩
theorem qCB:∀ (c0:UInt8),∃ n,qEO n c0=qEt (z218 c0):=fun c=>⟨0,by
 unfold qEO z218 qb;cases decide (c < 128) <;> cases decide (c < 194) <;> cases decide (244 < c) <;> cases decide (c < 224) <;> cases decide (c < 240) <;> rfl⟩
theorem qCC:∀ (first0:UInt8) (c1:UInt8),∃ n,qEQ n first0 c1=qwM (z238 first0 c1):=fun f c=>⟨0,by
 unfold qEQ z238;cases (f==224) <;> cases (f==237) <;> cases (f==240) <;> cases (f==244) <;> cases decide (160≤c) <;> cases decide (c < 160) <;> cases decide (144≤c) <;> cases decide (c < 144) <;> rfl⟩
theorem qxS (m:Nat) (x:UInt8) (r:LU) (hl:r.length≤1048576):∀ (d i n:Nat),qb x=i+d→1≤i→i≤r.length+1→d < n →
 qhM qEt (qaI m) n (x :: r) (i:Nat)=qEt ((i+runB x d (i==1) (r.drop (i - 1)):Nat):Int)
 | d,i,0,_,_,_,hn=>by omega
 | 0,i,n+1,hs,hi,hr,hn=>by
  show qbM _ _ _ n _ _=_;unfold qbM;have e0:z218 (getD (x :: r) (toNat 0) 0)=((qb x:Nat):Int):=rfl;have h0:decide ((0:Int) < (((x :: r).length:Nat):Int))=true:=dT (by simp only[yg];omega);rw[e0,h0,dF (show ¬ ((i:Nat):Int) < ((qb x:Nat):Int) by omega)];have hr0:runB x 0 (i==1) (r.drop (i - 1))=0:=by cases r.drop (i - 1) <;> rfl
  rw[hr0];show qaI m (x :: r) ((i:Nat):Int)=_;unfold qaI;rw[e0,h0];show qEt (bif decide (((qb x:Nat):Int) < ((i:Nat):Int)) then _ else _)=_;rw[dF (by omega)];rfl
 | d+1,i,n+1,hs,hi,hr,hn=>by
  show qbM _ _ _ n _ _=_;unfold qbM;have e0:z218 (getD (x :: r) (toNat 0) 0)=((qb x:Nat):Int):=rfl;have h0:decide ((0:Int) < (((x :: r).length:Nat):Int))=true:=dT (by simp only[yg];omega);rw[e0,h0,dT (show ((i:Nat):Int) < ((qb x:Nat):Int) by omega)];simp only[yc,yi,show decide ((0:Int)≤0)=true from rfl]
  by_cases hlt:i < (x :: r).length
  ·have hlt':i - 1 < r.length:=by simp only[yg] at hlt;omega
   obtain⟨y,hy⟩:∃ y,r.getD (i - 1) 0=y:=⟨_,rfl⟩;have hg:(x :: r).getD i 0=y:=by
    obtain⟨k,rfl⟩:∃ k,i=k+1:=⟨i - 1,by omega⟩;exact hy
   have hdr:r.drop (i - 1)=y :: r.drop i:=by
    have:=qgG hlt';rw[this,hy,show i - 1+1=i by omega]
   rw[dT (show ((i:Nat):Int) < (((x :: r).length:Nat):Int) by omega),dT (show (0:Int)≤((i:Nat):Int) by omega),tn,hg,hdr];simp only[yc,yi];have hrun:runB x (d+1) (i==1) (y :: r.drop i)=bif z237 y&&(!(i==1)||z238 x y) then runB x d false (r.drop i)+1 else 0:=rfl
   have ih:=qxS m x r hl d (i+1) n (by omega) (by omega) (by simp only[yg] at hlt;omega) (by omega);rw[show i+1 - 1=i by omega,show (i+1==1)=false by simp;omega] at ih;rw[hrun];cases hf:z237 y with
   | false=>simp only[Bool.not_false,yc,Bool.false_and,yd,Nat.add_zero]
   | true =>
    simp only[Bool.not_true,yd,y7];have hfin:qhM qEt (qaI m) n (x :: r) (wrap .i64 (((i:Nat):Int)+1))=qEt ((i+(runB x d false (r.drop i)+1):Nat):Int):=by
     rw[qm (by omega),ih,show i+1+runB x d false (r.drop i)=i+(runB x d false (r.drop i)+1) by omega]
    by_cases h1:i=1
    ·subst h1;rw[show (((1:Nat):Int)==1)=true from rfl,show ((1:Nat)==1)=true from rfl,yc,dT (show (1:Int) < (((x :: r).length:Nat):Int) by omega)];simp only[show decide ((0:Int)≤1)=true from rfl,yi,yc];have e1:getD (x :: r) (toNat 1) 0=y:=hg;have e2:getD (x :: r) (toNat 0) 0=x:=rfl;rw[e1,e2];cases hs2:z238 x y with
     | false=>rfl
     | true =>
      simp only[Bool.not_true,yd,Bool.false_or,yc];exact hfin
    ·rw[show (((i:Nat):Int)==1)=false by simp;omega,show (i==1)=false by simpa using h1];simp only[yd,Bool.not_false,Bool.true_or,yc];exact hfin
  ·have hi2:i=r.length+1:=by simp only[yg] at hlt;omega
   rw[dF (show ¬ ((i:Nat):Int) < (((x :: r).length:Nat):Int) by omega),yd,yA (by omega)];show qaI m (x :: r) ((i:Nat):Int)=qEt ((i+0:Nat):Int);unfold qaI;rw[e0,h0];show qEt (bif decide (((qb x:Nat):Int) < ((i:Nat):Int)) then _ else _)=_;rw[dF (by omega)];rfl
theorem qCD:∀ (s0:LU),(qiD s0=true)→∃ n,qqA n s0=qEt (z217 s0):=fun s h=>⟨6,by
 unfold qiD at h;rw[yf] at h;have hl:=qd h.1;match s,h.2 with
 | x :: r,_ =>
  simp only[yg] at hl;have h4:=qqT x;have ef:z217 (x :: r)=((bif qb x==0 then 0 else 1+runB x (qb x - 1) true r:Nat):Int):=rfl;unfold qqA;rw[ef]
  by_cases h0:qb x=0
  ·rw[show (qb x==0)=true by simpa using h0,yc];have e0:z218 (getD (x :: r) (toNat 0) 0)=((qb x:Nat):Int):=rfl;have h0':decide ((0:Int) < (((x :: r).length:Nat):Int))=true:=dT (by simp only[yg];omega);show qbM qEt (qaI 6) _ 5 (x :: r) 1=_;unfold qbM;rw[e0,h0',dF (show ¬ (1:Int) < ((qb x:Nat):Int) by omega)];show qaI 6 (x :: r) 1=_;unfold qaI;rw[e0,h0'];show qEt (bif decide (((qb x:Nat):Int) < (1:Int)) then ((qb x:Nat):Int) else _)=_;rw[dT (by omega),h0];rfl
  ·rw[show (qb x==0)=false by simpa using h0,yd];have:=qxS 6 x r (by omega) (qb x - 1) 1 6 (by omega) (yv 1) (by omega) (by omega);rw[show (1:Nat) - 1=0 from rfl,yw] at this;exact this⟩
theorem qCE:∀ (c0:Int) (e1:Int) (x2:LI),(qpX c0 e1 x2=true)→∃ n,qxh n c0 e1 x2=qox (z118 c0 e1 x2):=fun c e t h=>⟨0,by
 have hl:t.length≤2097152:=of_decide_eq_true h;unfold qxh z118;have hr:∀ y:Int,t.length+([y]:LI).length≤room:=fun y=>by show t.length+1≤room;unfold room;omega
 rw[dT (hr 65533),dT (hr c)];cases (e != 0) <;> rfl⟩
theorem qIs:∀ (s0:LU),(qzK s0=true)→∃ n,qIb n s0=qxg (z58 s0):=fun s h=>⟨0,by
 unfold qIb;have hok:qbU s []=true:=by unfold qbU;rw[show lenOk s=true from h];rfl
 first
  | (rw[hok];rfl)
  | rfl⟩
theorem qxT (ret:Bool→OA) (a b:LI) (hab:a.length=b.length) (hl:a.length≤1048576):∀ (d i n:Nat),i+d=a.length→d < n →
 qmi ret (ret true) n a b (i:Nat)=ret (decide (a.drop i=b.drop i))
 | d,i,0,hi,hn=>by omega
 | 0,i,n+1,hi,hn=>by
  show qfF ret (ret true) (qmi ret (ret true) n) n a b _=_;unfold qfF;rw[yx (by omega),yd,yA (by omega),yA (by omega)];rfl
 | d+1,i,n+1,hi,hn=>by
  show qfF ret (ret true) (qmi ret (ret true) n) n a b _=_;unfold qfF;have hlt:i < a.length:=by omega
  have hlt':i < b.length:=by omega
  have ih:=qxT ret a b hab hl d (i+1) n (by omega) (by omega);simp (disch:=omega) only [dT,yc,yi,tn,qm];rw[ih,qCd hlt hlt' 0];cases (a.getD i 0 != b.getD i 0) <;> rfl
theorem qIt:∀ (a0:LI) (b1:LI),(qrP a0 b1=true)→∃ n,qBZ n a0 b1=qwM (z11 a0 b1):=fun a b h=>⟨a.length+1,by
 unfold qBZ z11
 by_cases hab:a.length=b.length
 ·rw[show (((a.length:Nat):Int) != ((b.length:Nat):Int))=false by simp[hab],yd];exact qxT qwM a b hab (qd h) a.length 0 (a.length+1) (by omega) (by omega)
 ·rw[show (((a.length:Nat):Int) != ((b.length:Nat):Int))=true by simp only[bne_iff_ne,ne_eq];omega,yc,yx (fun e=>hab (by rw[e]))]⟩
theorem qIu:∀ (s0:LU) (sep1:LU),(qip s0 sep1=true)→∃ n,qLZ n s0 sep1=qxl (z82 s0 sep1).1 (z82 s0 sep1).2.1 (z82 s0 sep1).2.2:=fun s sep h=>⟨0,by
 have h0:=h;unfold qip at h;rw[yf] at h;have hl:=qd h.1;have hl2:=qd (yf _ _ ▸ h.2).1;unfold qLZ z82 z143;rw[show qhq s sep=true from h0]
 by_cases h1:0≤Lib.index s sep
 ·have hr:=Lib.index_room s sep h1;have e:wrap .i64 (Lib.index s sep+((sep.length:Nat):Int))=Lib.index s sep+((sep.length:Nat):Int):=IntWalk.i64_in _ (by omega);rw[e,yo h1,yo (show (0:Int)≤((0:Nat):Int) by omega),yo (show ((0:Nat):Int)≤Lib.index s sep by omega),yo (show Lib.index s sep≤((s.length:Nat):Int) by omega),
   yo (show (0:Int)≤Lib.index s sep+((sep.length:Nat):Int) by omega),yo (show Lib.index s sep+((sep.length:Nat):Int)≤((s.length:Nat):Int) by omega),yo (Int.le_refl ((s.length:Nat):Int)),qaZ,qaZ,List.take_length,
   show toNat (Lib.index s sep+((sep.length:Nat):Int))=(Lib.index s sep).toNat+sep.length by omega]
  rfl
 ·rw[yx h1];rfl⟩
theorem qCF:∀ (s0:LU) (suffix1:LU),(qpZ s0 suffix1=true)→∃ n,qEy n s0 suffix1=qor (z173 s0 suffix1).1 (z173 s0 suffix1).2:=fun s t h=>⟨0,by
 have hl:=qd h;unfold qEy z173;rw[show qiE s t=true from h]
 by_cases hc:t.length≤s.length
 ·have e:wrap .i64 ((s.length:Int) - (t.length:Int))=((s.length - t.length:Nat):Int):=by rw[IntWalk.i64_in _ (by omega)];omega
  rw[e,tn];simp (disch:=omega) only [dT,yc,yi];cases z215 s t <;> rfl
 ·have e:z215 s t=false:=by unfold z215;rw[dF hc];rfl
  rw[e];rfl⟩
def qIv (x:UInt8):Bool:=decide (x < 128)||(decide (160≤x)||((decide ((0:Int)≤((UInt8.toNat (x - (128:UInt8)):Nat):Int)))&&(decide (((UInt8.toNat (x - (128:UInt8)):Nat):Int) < (List.length z177:Nat))) &&
 ((bif ((getD z177 (toNat ((UInt8.toNat (x - (128:UInt8)):Nat):Int)) (0:Int)) != (0:Int)) then (getD z177 (toNat ((UInt8.toNat (x - (128:UInt8)):Nat):Int)) (0:Int)) else 65533)==z91 x)))
theorem qxU:∀ i:Fin 256,qIv (ofNat i.val)=true:=by decide +kernel
theorem qCG:∀ (x0:UInt8),∃ n,qEL n x0=qov (z116 x0):=fun x=>⟨0,by
 have hm:=qls (P:=fun x=>qIv x=true) qxU x;unfold qEL qcU z116;rw[qoN];cases h1:decide (x < (128:UInt8)) with
 | true=>unfold z91;rw[h1];rfl
 | false =>
  cases h2:decide ((160:UInt8)≤x) with
  | true =>
   have h3:decide ((159:UInt8) < x)=true:=by
    have h2':=of_decide_eq_true h2;apply yo;rw[UInt8.le_iff_toNat_le] at h2';rw[UInt8.lt_iff_toNat_lt];exact h2'
   unfold z91;rw[h1,h3];rfl
  | false =>
   unfold qIv at hm;rw[h1,h2,Bool.false_or,Bool.false_or,yf,beq_iff_eq] at hm;rw[yd,yd,hm.1,yc,← hm.2];cases ((getD z177 (toNat ((UInt8.toNat (x - (128:UInt8)):Nat):Int)) (0:Int)) != (0:Int)) <;> rfl⟩
theorem qmt:∀ i:Fin 256,(((ofNat i.val) &&& ~~~ (63:UInt8))==(128:UInt8))=z237 (ofNat i.val):=by decide +kernel
theorem qCH:∀ (c0:UInt8),∃ n,qEP n c0=qwM (z237 c0):=fun c=>⟨0,by
 unfold qEP;rw[qls (P:=fun c=>((c &&& ~~~ (63:UInt8))==(128:UInt8))=z237 c) qmt c]⟩
theorem qFt:∀ (f:UInt8) (n:Nat) (one:Bool) (s:LU),runB f n one s≤n∧runB f n one s≤s.length
 | f,0,one,s=>by cases s <;> exact⟨yv _,Nat.zero_le _⟩
 | f,n+1,one,[]=>⟨Nat.zero_le _,Nat.zero_le _⟩
 | f,n+1,one,x :: r=>by
  have ih:=qFt f n false r;show (bif z237 x&&(!one||z238 f x) then runB f n false r+1 else 0)≤n+1∧(bif z237 x&&(!one||z238 f x) then runB f n false r+1 else 0)≤r.length+1;cases z237 x&&(!one||z238 f x)
  ·exact⟨Nat.zero_le _,Nat.zero_le _⟩
  ·simp only[yc];omega
theorem qIw (a b:Nat) (hb:b < 64) (h:a*64+b < 2147483648):bits .or .i32 ((a*64:Nat):Int) (b:Int)=((a*64+b:Nat):Int):=by
 have h1:(BitVec.ofInt 32 ((a*64:Nat):Int)).toNat=a*64:=by rw[BitVec.toNat_ofInt];omega
 have h2:(BitVec.ofInt 32 ((b:Nat):Int)).toNat=b:=by rw[BitVec.toNat_ofInt];omega
 have h3:(BitVec.ofInt 32 ((a*64:Nat):Int) ||| BitVec.ofInt 32 (b:Int)).toNat=a*64+b:=by
  rw[BitVec.toNat_or,h1,h2];have:=Nat.shiftLeft_add_eq_or_of_lt (i:=6) hb a;rw[Nat.shiftLeft_eq] at this;exact this.symm
 show wrap .i32 (((BitVec.ofInt 32 ((a*64:Nat):Int) ||| BitVec.ofInt 32 (b:Int)).toNat:Nat):Int)=_;rw[h3,IntWalk.i32_in _ (by omega)]
def foldS (t:LU) (c:Int):Int:=t.foldl (fun c y=>c*64+((y &&& 63).toNat:Int)) c
theorem qxV:∀ i:Fin 256,((ofNat i.val) &&& (63:UInt8)).toNat < 64:=by decide +kernel
theorem low6 (y:UInt8):(y &&& 63).toNat < 64:=qls (P:=fun y=>(y &&& 63).toNat < 64) qxV y
theorem qiW (m:Nat) (t:LU) (n5:Int) (hl:t.length≤1048576):∀ (d i n b c:Nat),i+d=t.length→d < n→c < b→b*64 ^ d≤67108864 →
 qec (qeL m) n n5 (c:Int) t (t.length:Nat) (i:Nat)=qcm (foldS (t.drop i) c) n5 0
 | d,i,0,b,c,hi,hn,_,_=>by omega
 | 0,i,n+1,b,c,hi,hn,_,_=>by
  obtain rfl:i=t.length:=by omega
  show qbY _ _ n _ _ _ _ _=_;unfold qbY;rw[dF (by omega),yd,List.drop_length];rfl
 | d+1,i,n+1,b,c,hi,hn,hc,hb=>by
  show qbY _ _ n _ _ _ _ _=_;unfold qbY;have hlt:i < t.length:=by omega
  have h64:0 < 64 ^ d:=Nat.pow_pos (by decide);have hb':b*64*64 ^ d≤67108864:=by rw[Nat.pow_succ] at hb;rwa[Nat.mul_assoc,Nat.mul_comm 64]
  have hb2:b*64≤b*64*64 ^ d:=Nat.le_mul_of_pos_right _ h64;have hy:=low6 (t.getD i 0);simp (disch:=omega) only [dT,yc,yi,tn];have e1:wrap .i32 ((c:Int)*2 ^ (min (toNat (6:Int)) (IntKind.bits .i32)))=((c*64:Nat):Int):=by
   show wrap .i32 ((c:Int)*64)=_;rw[IntWalk.i32_in _ (by omega)];omega
  rw[e1,IntWalk.i32_in _ (by omega),qIw _ _ hy (by omega),qm (by omega),qiW m t n5 hl d (i+1) n (b*64) _ (by omega) (by omega) (by omega) hb',qgG hlt];show _=qcm (foldS (t.drop (i+1)) ((c:Int)*64+(((t.getD i 0) &&& 63).toNat:Int))) n5 0;congr 2
theorem qxW:∀ i:Fin 256,∀ n:Fin 5,((ofNat i.val) &&& ~~~ (z185 ((n.val:Nat):Int)))=((ofNat i.val) &&& (255 ^^^ (z185 ((n.val:Nat):Int)))):=by decide +kernel
theorem qMu (x:UInt8) (n:Nat) (hn:n < 5):(x &&& ~~~ (z185 ((n:Nat):Int)))=(x &&& (255 ^^^ (z185 ((n:Nat):Int)))):=qls (P:=fun x=>∀ n:Fin 5,(x &&& ~~~ (z185 ((n.val:Nat):Int)))=(x &&& (255 ^^^ (z185 ((n.val:Nat):Int))))) qxW x ⟨n,hn⟩
theorem qFu (x:UInt8) (r:LU):farN (x :: r)≤qb x∧farN (x :: r)≤r.length+1:=by
 show (bif qb x==0 then 0 else 1+runB x (qb x - 1) true r)≤_∧(bif qb x==0 then 0 else 1+runB x (qb x - 1) true r)≤_;have:=qFt x (qb x - 1) true r;cases h:qb x==0 with
 | true=>exact⟨Nat.zero_le _,Nat.zero_le _⟩
 | false =>
  rw[yB] at h;simp only[yd];omega
theorem qCI:∀ (s0:LU),(qpU s0=true)→∃ n,qqB n s0=qcm (z178 s0).1 (z178 s0).2.1 (z178 s0).2.2:=fun s h=>⟨s.length+5,by
 have hl:=qd h;match s with
 | []=>rfl
 | x :: r =>
  simp only[yg] at hl;have hf:=qFu x r;have h4:=qqT x;obtain⟨N,hN⟩:∃ N,farN (x :: r)=N:=⟨_,rfl⟩;have eT:z178 (x :: r)=bif farN (x :: r)==0 then ((0:Int),((1:Int),(3:Int))) else bif decide (farN (x :: r) < qb x)&&(farN (x :: r)==(x :: r).length) then (0,(farN (x :: r):Nat),4)
   else bif decide (farN (x :: r) < qb x) then (0,(farN (x :: r):Nat),3) else (signN (farN (x :: r)) (x :: r),(farN (x :: r):Nat),0):=rfl
  have eF:z217 (x :: r)=(N:Int):=by rw[← hN];rfl
  have eS:z218 (getD (x :: r) (toNat 0) 0)=((qb x:Nat):Int):=rfl;have hok:qiD (x :: r)=true:=by
   unfold qiD;rw[qu (show (x :: r).length≤1048576 by simp only[yg];omega)];rfl
  have h0:decide ((0:Int) < (((x :: r).length:Nat):Int))=true:=dT (by simp only[yg];omega);have h00:((((x :: r).length:Nat):Int)==0)=false:=by rw[yB];simp only[yg];omega
  rw[eT,hN];rw[hN] at hf;unfold qqB qeN qeM qcV qbZ qbA;rw[eF,eS,hok,h0,h00];simp only[yi,yc,yd,show decide ((0:Int)≤0)=true from rfl]
  by_cases hz:N=0
  ·subst hz;rfl
  ·rw[show (((N:Nat):Int)==0)=false by rw[yB];omega,show (N==0)=false by simpa using hz];simp only[yd]
   by_cases hs:N < qb x
   ·rw[dT (show ((N:Nat):Int) < ((qb x:Nat):Int) by omega),yo hs];simp only[yc,y7]
    by_cases hlN:N=(x :: r).length
    ·rw[show (((N:Nat):Int)==(((x :: r).length:Nat):Int))=true by rw[beq_iff_eq];omega,show (N==(x :: r).length)=true by simpa using hlN];rfl
    ·rw[show (((N:Nat):Int)==(((x :: r).length:Nat):Int))=false by rw[yB];omega,show (N==(x :: r).length)=false by simpa using hlN];rfl
   ·rw[dF (show ¬ ((N:Nat):Int) < ((qb x:Nat):Int) by omega),yx hs];simp only[yd,Bool.false_and];rw[dT (show (1:Int)≤((N:Nat):Int) by omega),dT (show ((N:Nat):Int)≤(((x :: r).length:Nat):Int) by simp only[yg];omega)];simp only[show decide ((0:Int)≤1)=true from rfl,yi,yc,tn];have e1:List.drop (toNat 1) (List.take N (x :: r))=r.take (N - 1):=by
     obtain⟨k,rfl⟩:∃ k,N=k+1:=⟨N - 1,by omega⟩;rfl
    have e2:getD (x :: r) (toNat 0) 0=x:=rfl;rw[e1,e2,qMu x N (by omega)];have hx:=(x &&& (255 ^^^ z185 ((N:Nat):Int))).toNat_lt;have ht:(r.take (N - 1)).length=N - 1:=by rw[yz];omega
    rw[IntWalk.i32_in _ (by omega)];have:=qiW ((x :: r).length+5) (r.take (N - 1)) (N:Int) (by omega) (r.take (N - 1)).length 0 ((x :: r).length+5) 256 _ (by omega) (by simp only[yg];omega) hx (by
     rw[ht];have:N - 1=0∨N - 1=1∨N - 1=2∨N - 1=3:=by omega
     rcases this with e | e | e | e <;> rw[e] <;> decide)
    rw[yw] at this;exact this⟩
theorem qMv (x:UInt8) (r:LU):(z178 (x :: r)).2.1=((z178 (x :: r)).2.1.toNat:Int)∧(z178 (x :: r)).2.1.toNat≤r.length+1:=by
 have hf:=qFu x r;show ((bif farN (x :: r)==0 then ((0:Int),((1:Int),(3:Int))) else bif decide (farN (x :: r) < qb x)&&(farN (x :: r)==(x :: r).length) then (0,(farN (x :: r):Nat),4)
  else bif decide (farN (x :: r) < qb x) then (0,(farN (x :: r):Nat),3) else (signN (farN (x :: r)) (x :: r),(farN (x :: r):Nat),0)).2.1=(((bif farN (x :: r)==0 then ((0:Int),((1:Int),(3:Int))) else bif decide (farN (x :: r) < qb x)&&(farN (x :: r)==(x :: r).length) then (0,(farN (x :: r):Nat),4)
  else bif decide (farN (x :: r) < qb x) then (0,(farN (x :: r):Nat),3) else (signN (farN (x :: r)) (x :: r),(farN (x :: r):Nat),0)).2.1.toNat:Nat):Int))∧(bif farN (x :: r)==0 then ((0:Int),((1:Int),(3:Int))) else bif decide (farN (x :: r) < qb x)&&(farN (x :: r)==(x :: r).length) then (0,(farN (x :: r):Nat),4)
  else bif decide (farN (x :: r) < qb x) then (0,(farN (x :: r):Nat),3) else (signN (farN (x :: r)) (x :: r),(farN (x :: r):Nat),0)).2.1.toNat≤r.length+1
 cases farN (x :: r)==0
 ·cases decide (farN (x :: r) < qb x)&&(farN (x :: r)==(x :: r).length)
  ·cases decide (farN (x :: r) < qb x)
   ·exact⟨rfl,hf.2⟩
   ·exact⟨rfl,hf.2⟩
  ·exact⟨rfl,hf.2⟩
 ·exact⟨rfl,by show 1≤_;omega⟩
theorem qxX (m:Nat):∀ (n k:Nat) (s:LU) (t:LI),s.length < n→s.length < k→s.length≤1048576→t.length+s.length≤2097152 →
 qbB (qco m) n s t=qaS (t++utfR k s)
 | 0,k,s,t,hn,_,_,_=>by omega
 | n+1,0,s,t,_,hk,_,_=>by omega
 | n+1,k+1,[],t,_,_,_,_=>by
  show qaS t=qaS (t++[]);rw[yG]
 | n+1,k+1,x :: r,t,hn,hk,hl,ht=>by
  show qcn _ (qbB (qco m) n) n _ _=_;unfold qcn;simp only[yg] at hn hk hl ht;obtain⟨e1,e2⟩:=qMv x r;have e3:=qtZ x r;rw[dT (show (0:Int) < (((x :: r).length:Nat):Int) by simp only[yg];omega),show qpU (x :: r)=true from qu (by simp only[yg];omega),
   show qpX (z178 (x :: r)).1 (z178 (x :: r)).2.2 t=true from yo (by omega)]
  generalize hw:(z178 (x :: r)).2.1.toNat=w at e1 e2 e3;rw[e1,dT (show (0:Int)≤(w:Int) by omega),dT (show (w:Int)≤(((x :: r).length:Nat):Int) by simp only[yg];omega),dT (Int.le_refl _)];simp only[yc,yi,tn,List.take_length];have hd:((x :: r).drop w).length≤r.length:=by rw[yK,yg];omega
  have hd2:((x :: r).drop w).length+1≤r.length+1:=by omega
  rw[qxX m n k ((x :: r).drop w) (z118 (z178 (x :: r)).1 (z178 (x :: r)).2.2 t) (by omega) (by omega) (by omega) (by unfold z118;rw[yn];show t.length+1+_≤_;omega)];show qaS _=qaS (t++((bif (z178 (x :: r)).2.2 != 0 then 65533 else (z178 (x :: r)).1) :: utfR k ((x :: r).drop (z178 (x :: r)).2.1.toNat)));rw[hw];unfold z118;rw[yl];rfl
theorem qoT:∀ (s0:LU) (f1:LI),(qbU s0 f1=true)→∃ n,qhN n s0 f1=qaS (qud s0 f1):=fun s t h=>⟨s.length+1,by
 unfold qbU at h;rw[yf,ym] at h;have hl:=qd h.1;exact qxX (s.length+1) (s.length+1) (s.length+1) s t (by omega) (by omega) hl (by omega)⟩
theorem and15 (n:Int):bits .and .i64 n 15=n % 16:=by
 have h:(BitVec.ofInt 64 n &&& BitVec.ofInt 64 15).toNat=(n % 16).toNat:=by
  rw[BitVec.toNat_and];have h1:(BitVec.ofInt 64 15).toNat=2 ^ 4 - 1:=by decide
  rw[h1,Nat.and_two_pow_sub_one_eq_mod,BitVec.toNat_ofInt];omega
 show wrap .i64 (((BitVec.ofInt 64 n &&& BitVec.ofInt 64 15).toNat:Nat):Int)=_;rw[h,IntWalk.i64_in _ (by omega)];omega
theorem qCJ:∀ (n0:Int),(qdJ n0=true)→∃ n,qEX n n0=qjX (z239 n0):=fun n _=>⟨0,by
 unfold qEX z239;rw[and15];have h0:(0:Int)≤n % 16:=by omega
 have h1:n % 16 < (((([48,49,50,51,52,53,54,55,56,57,65,66,67,68,69,70]:LU).length:Nat)):Int):=by simp;omega
 rw[yo h0,yo h1];rfl⟩
theorem qxY:∀ i:Fin 256,[z239 (wrap .i64 ((UInt8.toNat (ofNat (UInt8.toNat (ofNat i.val) / 2 ^ (min (toNat (4:Int)) 8))):Nat):Int)),z239 (wrap .i64 ((UInt8.toNat (ofNat i.val):Nat):Int))]=z219 (ofNat i.val):=by decide +kernel
theorem boths (c:UInt8):[z239 (wrap .i64 ((UInt8.toNat (ofNat (UInt8.toNat c / 2 ^ (min (toNat (4:Int)) 8))):Nat):Int)),z239 (wrap .i64 ((UInt8.toNat c:Nat):Int))]=z219 c:=qic (P:=fun c=>[z239 (wrap .i64 ((UInt8.toNat (ofNat (UInt8.toNat c / 2 ^ (min (toNat (4:Int)) 8))):Nat):Int)),z239 (wrap .i64 ((UInt8.toNat c:Nat):Int))]=z219 c) qxY c
theorem qCK:∀ (c0:UInt8),∃ n,qEY n c0=qxq (z219 c0):=fun c=>⟨0,by
 obtain⟨_,_,h1,h2⟩:=qNQ c;unfold qEY;rw[h1,h2,boths];rfl⟩
theorem qCL:∀ (b0:LU) (sign1:UInt8) (c2:UInt8),(qpL b0 sign1 c2=true)→∃ n,qEZ n b0 sign1 c2=qxr (z179 b0 sign1 c2):=fun b sign c h=>⟨0,by
 have hl:=qd h;unfold qEZ z179 qdM z153;rw[show lenOk b=true from h,yi,yc,yo (by unfold room;simp;omega),yc,yo (by unfold room z219;simp;omega),yc,yl];rfl⟩
theorem qxZ:∀ s:LU,(z190 s).length=8*s.length
 | []=>rfl
 | c :: r=>by
  have h:=qxZ r;unfold z190 at h ⊢;rw[List.flatMap_cons,yn,h];simp only[qcM,yg,List.length_nil];omega
theorem qqW:∀ (n:Nat) (l:LI),(sixes n l).length=n
 | 0,_=>rfl
 | n+1,l=>by
  unfold sixes;rw[yg,qqW n]
theorem qIx (s:LU):(z138 s).length=(8*s.length+qaA (8*s.length) 6) / 6:=by
 unfold z138;rw[qqW];unfold padTo;rw[yn,yQ,qxZ]
theorem and63 (n:Int):bits .and .i64 n 63=n % 64:=by
 have h:(BitVec.ofInt 64 n &&& BitVec.ofInt 64 63).toNat=(n % 64).toNat:=by
  rw[BitVec.toNat_and];have h1:(BitVec.ofInt 64 63).toNat=2 ^ 6 - 1:=by decide
  rw[h1,Nat.and_two_pow_sub_one_eq_mod,BitVec.toNat_ofInt];omega
 show wrap .i64 (((BitVec.ofInt 64 n &&& BitVec.ofInt 64 63).toNat:Nat):Int)=_;rw[h,IntWalk.i64_in _ (by omega)];omega
theorem qMw (a b k:Nat) (hb:b < 2 ^ k) (h:a*2 ^ k+b < 9223372036854775808):bits .or .i64 ((a*2 ^ k:Nat):Int) (b:Int)=((a*2 ^ k+b:Nat):Int):=by
 have h1:(BitVec.ofInt 64 ((a*2 ^ k:Nat):Int)).toNat=a*2 ^ k:=by rw[BitVec.toNat_ofInt];omega
 have h2:(BitVec.ofInt 64 ((b:Nat):Int)).toNat=b:=by rw[BitVec.toNat_ofInt];omega
 have h3:(BitVec.ofInt 64 ((a*2 ^ k:Nat):Int) ||| BitVec.ofInt 64 (b:Int)).toNat=a*2 ^ k+b:=by
  rw[BitVec.toNat_or,h1,h2];have:=Nat.shiftLeft_add_eq_or_of_lt hb a;rw[Nat.shiftLeft_eq] at this;exact this.symm
 show wrap .i64 (((BitVec.ofInt 64 ((a*2 ^ k:Nat):Int) ||| BitVec.ofInt 64 (b:Int)).toNat:Nat):Int)=_;rw[h3,IntWalk.i64_in _ (by omega)]
theorem qiX (n k:Nat) (hn:n < 9223372036854775808) (hk:2 ^ k≤4611686018427387904):bits .and .i64 (n:Int) ((2 ^ k - 1:Nat):Int)=((n % 2 ^ k:Nat):Int):=by
 have hpos:0 < 2 ^ k:=Nat.pow_pos (by decide);have h1:(BitVec.ofInt 64 (n:Int)).toNat=n:=by rw[BitVec.toNat_ofInt];omega
 have h2:(BitVec.ofInt 64 ((2 ^ k - 1:Nat):Int)).toNat=2 ^ k - 1:=by rw[BitVec.toNat_ofInt];omega
 have h3:(BitVec.ofInt 64 (n:Int) &&& BitVec.ofInt 64 ((2 ^ k - 1:Nat):Int)).toNat=n % 2 ^ k:=by
  rw[BitVec.toNat_and,h1,h2,Nat.and_two_pow_sub_one_eq_mod]
 have h4:n % 2 ^ k < 2 ^ k:=Nat.mod_lt _ hpos;show wrap .i64 (((BitVec.ofInt 64 (n:Int) &&& BitVec.ofInt 64 ((2 ^ k - 1:Nat):Int)).toNat:Nat):Int)=_;rw[h3,IntWalk.i64_in _ (by omega)]
theorem fdivN (n k:Nat):Int.fdiv (n:Int) ((k:Nat):Int)=((n / k:Nat):Int):=by
 rw[Int.fdiv_eq_ediv_of_nonneg _ (Int.natCast_nonneg k),Int.natCast_ediv]
theorem held8 (h x:Nat) (hh:h < 16) (hx:x < 256):bits .or .i64 (wrap .i64 ((h:Int)*2 ^ (min (toNat (8:Int)) (IntKind.bits .i64)))) (wrap .i64 (x:Int))=((h*256+x:Nat):Int):=by
 have e:wrap .i64 ((h:Int)*2 ^ (min (toNat (8:Int)) (IntKind.bits .i64)))=((h*2 ^ 8:Nat):Int):=by
  show wrap .i64 ((h:Int)*256)=_;rw[IntWalk.i64_in _ (by omega)];omega
 rw[e,IntWalk.i64_in _ (by omega),qMw h x 8 (by omega) (by omega)]
theorem qIy (m h x:Nat):(encD m h x).length≤2:=by
 unfold encD;cases m==4
 ·exact Nat.le_succ 1
 ·exact yv 2
theorem qCM:∀ i:Fin 256,(decide (0≤(z175 (ofNat i.val)).1)&&decide ((z175 (ofNat i.val)).1 < 64))=true:=by decide +kernel
theorem qFv (c:UInt8):∃ n:Nat,(z175 c).1=(n:Int)∧n < 64:=by
 have h:=qls (P:=fun c=>(decide (0≤(z175 c).1)&&decide ((z175 c).1 < 64))=true) qCM c;simp only[yf,ym] at h;exact⟨(z175 c).1.toNat,by omega,by omega⟩
theorem qCN (h:i < s.length):s.take i++[s.getD i 0]=s.take (i+1):=by
 rw[List.take_succ_eq_append_getElem h,yZ,yO h];rfl
theorem qIz (s:LU):(bodyB s).length≤s.length:=by
 unfold bodyB;cases s.getLast? == some 61
 ·simp only[yd];cases (s.getLast? == some 61&&s.length != s.length)
  ·exact yv _
  ·rw[yc,List.length_dropLast];omega
 ·simp only[yc];cases (s.dropLast.getLast? == some 61&&s.dropLast.length != s.length)
  ·rw[yd,List.length_dropLast];omega
  ·rw[yc,List.length_dropLast,List.length_dropLast];omega
theorem tmod4 (n:Nat):((tmod (n:Int) 4) != (0:Int))=(n % 4 != 0):=by
 have:tmod (n:Int) 4=((n % 4:Nat):Int):=rfl;rw[this];cases h:n % 4 != 0 with
 | true =>
  rw[bne_iff_ne] at h ⊢;omega
 | false =>
  rw[bne_eq_false_iff_eq] at h ⊢;omega
theorem qcr (c:UInt8) (r:LU):digB (c :: r)=bif c==61 then [] else bif isB64 c then c :: digB r else digB r:=by
 unfold digB;rw[List.takeWhile_cons];cases h:c==61 with
 | true =>
  have:(c != 61)=false:=by rw[bne,h];rfl
  rw[this];rfl
 | false =>
  have:(c != 61)=true:=by rw[bne,h];rfl
  rw[this,if_pos rfl,yd,List.filter_cons];cases isB64 c <;> rfl
theorem qCO:∀ (c0:Int),∃ n,qFg n c0=qwM (z211 c0):=fun c=>⟨0,by
 unfold qFg z211;cases decide ((55296:Int)≤c) <;> rfl⟩
theorem qCP:∀ (c0:Int),∃ n,qFh n c0=qwM (z161 c0):=fun c=>⟨0,by
 unfold qFh z161;cases decide (wrap .u32 c≤1114111) <;> rfl⟩
theorem qCQ:∀ (c0:Int),∃ n,qMi n c0=qwM (z224 c0):=fun _=>⟨0,rfl⟩
theorem qCR:∀ (s0:LI) (v1:Int),(qpM s0 v1=true)→∃ n,qqJ n s0 v1=qEt (z186 s0 v1):=fun t v h=>⟨t.length+1,by
 have hl:=qd (l:=t) h;unfold qqJ z186;refine qid (qdC (L:=fun n i=>qiN qEt (qkf (t.length+1)) n t v ((t.length:Nat):Int) i) hl (fun n i hi=>?_) (fun n=>?_) t.length 0 (t.length+1) (by omega) (by omega)) rfl
 ·show qdw _ _ _ n _ _ _ _=_;unfold qdw;simp (disch:=omega) only [dT,yc,yi,tn,qm];cases (v==t.getD i 0) <;> rfl
 ·show qdw _ _ _ n _ _ _ _=_;unfold qdw;rw[dF (by omega)];rfl⟩
theorem qCS:∀ (t:LI),(qpR t=true)→∃ n,qqM n t=qEt (z128 t):=fun t h=>⟨t.length+1,by
 have hl:=qd (l:=t) h;unfold qqM z128;refine qid (qdC (L:=fun n i=>qiR qEt (qkk (t.length+1)) n t ((t.length:Nat):Int) i) hl (fun n i hi=>?_) (fun n=>?_) t.length 0 (t.length+1) (by omega) (by omega)) rfl
 ·show qdz _ _ _ n _ _ _=_;unfold qdz;simp (disch:=omega) only [dT,yc,yi,tn,qm];cases z160 (t.getD i 0) <;> rfl
 ·show qdz _ _ _ n _ _ _=_;unfold qdz;rw[dF (by omega)];rfl⟩
theorem qCT:∀ (t:LI),(qpS t=true)→∃ n,qqN n t=qEt (z130 t):=fun t h=>⟨t.length+1,by
 have hl:=qd (l:=t) h;unfold qqN z130;refine qid (qdC (L:=fun n i=>qiS qEt (qkm (t.length+1)) n t ((t.length:Nat):Int) i) hl (fun n i hi=>?_) (fun n=>?_) t.length 0 (t.length+1) (by omega) (by omega)) rfl
 ·show qdA _ _ _ n _ _ _=_;unfold qdA;simp (disch:=omega) only [dT,yc,yi,tn,qm];cases z158 (t.getD i 0) <;> rfl
 ·show qdA _ _ _ n _ _ _=_;unfold qdA;rw[dF (by omega)];rfl⟩
theorem qCU:∀ (cs:Int) (t:LI),(qpT cs t=true)→∃ n,qqK n cs t=qEt (z124 cs t):=fun cs t h=>⟨t.length+1,by
 have hl:=qd (l:=t) h;unfold qqK z124;refine qid (qdC (L:=fun n i=>qiO qEt (qkg (t.length+1)) n cs t ((t.length:Nat):Int) i) hl (fun n i hi=>?_) (fun n=>?_) t.length 0 (t.length+1) (by omega) (by omega)) rfl
 ·show qdx _ _ _ n _ _ _ _=_;unfold qdx;simp (disch:=omega) only [dT,yc,yi,tn,qm];cases z105 cs (t.getD i 0) <;> rfl
 ·show qdx _ _ _ n _ _ _ _=_;unfold qdx;rw[dF (by omega)];rfl⟩
theorem qCV:∀ (t0:LI),(qpO t0=true)→∃ n,qFj n t0=qEt (z183 t0):=fun t h=>⟨0,by
 unfold qFj;rw[show qpN t=true from h];rfl⟩
theorem qCW:∀ (t0:LI),(qpP t0=true)→∃ n,qFk n t0=qwM (z125 t0):=fun t h=>⟨0,by
 unfold qFk;rw[show qpO t=true from h];rfl⟩
theorem qCX:∀ (c0:Int),∃ n,qFl n c0=qEt (z184 c0):=fun c=>⟨0,by
 unfold qFl z184;cases z161 c <;> cases decide (c < (128:Int)) <;> cases decide (c < (2048:Int)) <;> cases decide (c < (65536:Int)) <;> rfl⟩
theorem qCY:∀ (b0:LU) (c1:Int),(qpQ b0 c1=true)→∃ n,qFm n b0 c1=qxa (z126 b0 c1).1 (z126 b0 c1).2:=fun b c h=>⟨0,by
 have hl:=qd (l:=b) h;unfold qFm qab qbE qdc qbD qhU z126;rw[show qdM b=true from h,show z153 b=b from rfl];have hr:∀ (l m:LU),l.length≤1048580→m.length≤10→decide (l.length+m.length≤room)=true:=fun l m h1 h2=>dT (by unfold room;omega);rcases qmo c with e | e | e | e | e <;> rw[e]
 ·rfl
 ·rw[hr b _ (by omega) (by simp)];rfl
 ·simp only[show ((2:Int)==0)=false from rfl,show ((2:Int)==4)=false from rfl,show ((2:Int)==3)=false from rfl,show ((2:Int)==2)=true from rfl,yd,yc];rw[hr b _ (by omega) (by simp),hr (b++_) _ (by simp;omega) (by simp)];simp only[yl];rfl
 ·simp only[show ((3:Int)==0)=false from rfl,show ((3:Int)==4)=false from rfl,show ((3:Int)==3)=true from rfl,yd,yc];rw[hr b _ (by omega) (by simp),hr (b++_) _ (by simp;omega) (by simp),hr (b++_++_) _ (by simp;omega) (by simp)];simp only[yl];rfl
 ·simp only[show ((4:Int)==0)=false from rfl,show ((4:Int)==4)=true from rfl,yd,yc];rw[hr b _ (by omega) (by simp),hr (b++_) _ (by simp;omega) (by simp),hr (b++_++_) _ (by simp;omega) (by simp),hr (b++_++_++_) _ (by simp;omega) (by simp)];simp only[yl];rfl⟩
theorem qya {β:Type} (ret:UInt8→Bool→β) (b:Bool) (x y:UInt8×Bool):ret (bif b then x else y).1 (bif b then x else y).2=bif b then ret x.1 x.2 else ret y.1 y.2:=by cases b <;> rfl
theorem qCZ:∀ (c0:Int),∃ n,qxv n c0=qjY (z127 c0).1 (z127 c0).2:=fun c=>⟨9,by
 unfold z127;simp only[qya];rw[show (bif decide (c < 0)||decide (256≤c) then qjY (0,false).1 (0,false).2 else qjY (oct8 c,true).1 (oct8 c,true).2)=qgE 9 c from by
  unfold qgE;cases decide (c < (0:Int)) <;> cases decide ((256:Int)≤c) <;> rfl]
 rfl⟩
theorem qDa:∀ (c0:Int),∃ n,qMf n c0=qwM (z159 c0):=fun _=>⟨0,rfl⟩
theorem qDb:∀ (c0:Int),∃ n,qFf n c0=qjY (z129 c0).1 (z129 c0).2:=fun c=>⟨0,by
 unfold qFf qcd qcc qcb z129;rw[show qpM z177 c=true from by show lenOk z177=true;decide];have h1:decide (0≤c)=false→decide (c < 256)=true:=by simp;omega
 have h2:decide (c < 128)=true→decide (c < 256)=true:=by simp;omega
 have h3:decide (160≤c)=true→decide (0≤c)=true:=by simp;omega
 have h4:decide (160≤c)=true→decide (c < 128)=false:=by simp;omega
 have h5:decide (160≤c)=false→decide (c < 256)=true:=by simp;omega
 simp only[qya];revert h1 h2 h3 h4 h5;cases decide ((0:Int)≤c) <;> cases decide (c < (128:Int)) <;> cases decide ((160:Int)≤c) <;> cases decide (c < (256:Int)) <;> cases decide (z186 z177 c < (0:Int)) <;> intro h1 h2 h3 h4 h5 <;> first | rfl | (exfalso;revert h1 h2 h3 h4 h5;decide)⟩
theorem qDc:∀ (c0:Int),∃ n,qMg n c0=qwM (z160 c0):=fun _=>⟨0,rfl⟩
theorem qDd:∀ (c0:Int),∃ n,qMe n c0=qwM (z158 c0):=fun _=>⟨0,rfl⟩
theorem qyb (k0:LU→OA) (t:LI) (hl:t.length≤1048576):∀ (d i n:Nat),i+d=t.length→d < n →
 qmh k0 n ((t.take i).map (fun c=>ofNat (toNat (wrap .u8 c)))++replicate (t.length - i) 0) t (t.length:Nat) (i:Nat)=k0 (t.map fun c=>ofNat (toNat (wrap .u8 c)))
 | d,i,0,hi,hn=>by omega
 | 0,i,n+1,hi,hn=>by
  show qfE k0 (qmh k0 n) n _ t _ _=_;unfold qfE;obtain rfl:i=t.length:=by omega
  rw[yx (by omega),yd,List.take_length,Nat.sub_self];simp
 | d+1,i,n+1,hi,hn=>by
  show qfE k0 (qmh k0 n) n _ t _ _=_;unfold qfE;have hlt:i < t.length:=by omega
  have hl2:((t.take i).map (fun c=>ofNat (toNat (wrap .u8 c)))++replicate (t.length - i) (0:UInt8)).length=t.length:=by simp;omega
  have ih:=qyb k0 t hl d (i+1) n (by omega) (by omega);rw[qkF,yo hlt,yc,qak,y7,yc,y7,qkF,hl2,yo hlt,yc,qm (by omega),qaZ,
   qxN (fun c=>ofNat (toNat (wrap .u8 c))) t 0 i hlt 0]
  exact ih
theorem qIA:∀ (t0:LI),(qzF t0=true)→∃ n,qBY n t0=qxa (z70 t0).1 (z70 t0).2:=fun t h=>⟨t.length+1,by
 have hl:=qd h;unfold qBY z70;rw[show qpS t=true from h,yi,yc];cases z130 t != -1 with
 | true=>rfl
 | false =>
  have:=qyb (qkn (t.length+1)) t hl t.length 0 (t.length+1) (by omega) (by omega);rw[yd,yd,qak,yo (Int.le_refl _),yo (by unfold room;omega)];unfold qkn at this ⊢;simpa using this⟩
theorem qDe:∀ (charset0:Int) (c1:Int),∃ n,qFi n charset0 c1=qwM (z105 charset0 c1):=fun cs c=>⟨0,by
 unfold qFi z105;cases (cs==(1:Int)) <;> cases (cs==(2:Int)) <;> cases (cs==(3:Int)) <;> cases (cs==(4:Int)) <;> cases (cs==(5:Int)) <;> cases decide ((0:Int)≤c) <;> rfl⟩
theorem qIB:∀ (charset0:Int),∃ n,qMd n charset0=qEt (z65 charset0):=fun cs=>⟨0,by
 unfold qMd z65
 by_cases h:cs=2
 ·subst h;rfl
 ·rw[beqF h];cases (cs==(1:Int)) <;> cases (cs==(3:Int)) <;> cases (cs==(4:Int)) <;> cases (cs==(5:Int)) <;> rfl⟩
theorem qIC:∀ (charset0:Int) (t1:LI),(qzJ charset0 t1=true)→∃ n,qMh n charset0 t1=qwM (z66 charset0 t1):=fun cs t h=>⟨0,by
 unfold qMh z66;rw[show qpT cs t=true from h];cases decide (0 < z65 cs) <;> rfl⟩
theorem qID:∀ (t0:LI),(qzG t0=true)→∃ n,qBW n t0=qxa (z68 t0).1 (z68 t0).2:=fun t h=>⟨t.length+1,by
 have hl:=qd (l:=t) h;unfold qBW z68;have:=qfK (t:=t) (dv:=0) (f:=fun c=>[(z127 c).1]) (q:=z159) (b:=1) (k0:=qkj (t.length+1)) (R:=qxa [] 9)
  (L:=fun n out i=>qsr qxa (qkj (t.length+1)) n out t ((t.length:Nat):Int) i) (fun x=>by simp) (fun n i out hi hb=>by
   show qfC _ _ _ n _ _ _ _=_;unfold qfC;simp (disch:=omega) only [dT,yc,yi,tn,qm,yg,List.length_nil,yE];show (bif !(z159 (t.getD i 0)) then _ else _)=_;cases z159 (t.getD i 0) <;> rfl) (fun n out=>by
   show qfC _ _ _ n _ _ _ _=_;unfold qfC;rw[dF (by omega)];rfl) t.length 0 (t.length+1) [] (by omega) (by omega) (by unfold room;simp;omega)
 refine this.trans ?_;rw[yw,qaX];cases t.all z159 <;> rfl⟩
theorem qIE:∀ (t0:LI),(qzH t0=true)→∃ n,qBX n t0=qxa (z69 t0).1 (z69 t0).2:=fun t h=>⟨t.length+1,by
 have hl:=qd (l:=t) h;unfold qBX z69;rw[show qpR t=true from h];cases decide (0≤z128 t) with
 | true=>rfl
 | false =>
  have:=qfK (t:=t) (dv:=0) (f:=fun c=>[(z129 c).1]) (q:=fun _=>true) (b:=1) (k0:=qkl (t.length+1)) (R:=none)
   (L:=fun n out i=>qss (qkl (t.length+1)) n out t ((t.length:Nat):Int) i) (fun x=>by simp) (fun n i out hi hb=>by
    show qfD _ _ n _ _ _ _=_;unfold qfD;simp (disch:=omega) only [dT,yc,yi,tn,qm,yg,List.length_nil,yE]) (fun n out=>by
    show qfD _ _ n _ _ _ _=_;unfold qfD;rw[dF (by omega)];rfl) t.length 0 (t.length+1) [] (by omega) (by omega) (by unfold room;simp;omega)
  simp (disch:=(first | omega | (unfold room;omega))) only [dT,yc,yd,yi];refine this.trans ?_;rw[yw,qaX,List.all_eq_true.2 (fun _ _=>rfl)];rfl⟩
theorem qIF:∀ (t0:LI),(qzI t0=true)→∃ n,qBV n t0=qxa (z67 t0).1 (z67 t0).2:=fun t h=>⟨t.length+1,by
 have hl:=qd (l:=t) h;unfold qBV z67;rw[show qpP t=true from h];cases !(z125 t) with
 | true=>rfl
 | false =>
  have:=qfK (t:=t) (dv:=0) (f:=fun c=>(z126 [] c).1) (q:=fun _=>true) (b:=4) (k0:=qki (t.length+1)) (R:=none)
   (L:=fun n out i=>qsq (qki (t.length+1)) n out t ((t.length:Nat):Int) i) qxO (fun n i out hi hb=>by
    show qfB _ _ n _ _ _ _=_;unfold qfB;have hp:=qxO (t.getD i 0);rw[show qpQ ([]:LU) (t.getD (toNat (i:Int)) 0)=true from rfl];simp (disch:=omega) only [dT,yc,yi,tn,qm]) (fun n out=>by
    show qfB _ _ n _ _ _ _=_;unfold qfB;rw[dF (by omega)];rfl) t.length 0 (t.length+1) [] (by omega) (by omega) (by unfold room;simp;omega)
  simp only[yc,yd,yi];refine this.trans ?_;rw[yw,List.all_eq_true.2 (fun _ _=>rfl)];rfl⟩
theorem qIG:∀ (charset0:Int) (t1:LI),(qrN charset0 t1=true)→∃ n,qMj n charset0 t1=qxa (z31 charset0 t1).1 (z31 charset0 t1).2:=fun cs t h=>⟨0,by
 unfold qMj z31;rw[show qzJ cs t=true from h,show qzI t=true from h,show qzG t=true from h,show qzH t=true from h,show qzF t=true from h];cases (z65 cs==0) <;> cases z66 cs t <;> cases (cs==(5:Int)) <;> cases (cs==(3:Int)) <;> cases (cs==(4:Int)) <;> rfl⟩
theorem qDf:∀ (n0:Int),∃ n,qFc n n0=qjX (z222 n0):=fun n=>⟨0,by
 unfold qFc qhP z222;rw[and63];have h0:(0:Int)≤n % 64:=by omega
 have h1:n % 64 < (((b64D.length:Nat)):Int):=by show n % 64 < ((64:Nat):Int);omega
 rw[yo h0];show (bif true&&decide (n % 64 < (((b64D.length:Nat)):Int)) then _ else _)=_;rw[yo h1];rfl⟩
theorem qMx (k2:LU→Int→Int→LU→Int→Int→OA) (n:Nat) (out:LU) (h:Nat) (s8:LU) (s9 s10:Int) (ho:out.length+1≤room) :
 qcv k2 (n+3) out (h:Int) 8 s8 s9 s10=k2 (out++[z222 ((h / 4:Nat):Int)]) (h:Int) 2 s8 s9 s10:=by
 have e:qcv k2 (n+3) out (h:Int) 8 s8 s9 s10=bif decide (out.length+1≤room) then k2 (out++[z222 (Int.fdiv (h:Int) ((4:Nat):Int))]) (h:Int) 2 s8 s9 s10 else none:=rfl
 rw[e,dT ho,yc,fdivN]
theorem qMy (k2:LU→Int→Int→LU→Int→Int→OA) (n:Nat) (out:LU) (h:Nat) (s8:LU) (s9 s10:Int) (ho:out.length+1≤room) :
 qcv k2 (n+3) out (h:Int) 10 s8 s9 s10=k2 (out++[z222 ((h / 16:Nat):Int)]) (h:Int) 4 s8 s9 s10:=by
 have e:qcv k2 (n+3) out (h:Int) 10 s8 s9 s10=bif decide (out.length+1≤room) then k2 (out++[z222 (Int.fdiv (h:Int) ((16:Nat):Int))]) (h:Int) 4 s8 s9 s10 else none:=rfl
 rw[e,dT ho,yc,fdivN]
theorem qMz (k2:LU→Int→Int→LU→Int→Int→OA) (n:Nat) (out:LU) (h:Nat) (s8:LU) (s9 s10:Int) (ho:out.length+2≤room) :
 qcv k2 (n+3) out (h:Int) 12 s8 s9 s10=k2 (out++[z222 ((h / 64:Nat):Int),z222 (h:Int)]) (h:Int) 0 s8 s9 s10:=by
 have e:qcv k2 (n+3) out (h:Int) 12 s8 s9 s10=bif decide (out.length+1≤room) then (bif decide ((out++[z222 (Int.fdiv (h:Int) ((64:Nat):Int))]).length+1≤room) then k2 ((out++[z222 (Int.fdiv (h:Int) ((64:Nat):Int))])++[z222 (Int.fdiv (h:Int) ((1:Nat):Int))]) (h:Int) 0 s8 s9 s10 else none) else none:=rfl
 rw[e,dT (show out.length+1≤room by omega),yc,dT (by rw[yn];exact ho),yc,fdivN,fdivN,Nat.div_one,yl];rfl
theorem qDg (k0:LU→Int→Int→OA) (next:LU→Int→Int→LU→Int→Int→OA) (j n:Nat) (out:LU) (h m x:Nat) (s8:LU) (s9 s10:Int)
 (hm:m=0∨m=2∨m=4) (hh:h < 2 ^ m) (hx:x < 256) (ho:out.length+2≤room) :
 qcv (qdu k0 next j) (n+3) out (bits .or .i64 (wrap .i64 ((h:Int)*2 ^ (min (toNat (8:Int)) (IntKind.bits .i64)))) (wrap .i64 (x:Int))) (wrap .i64 ((m:Int)+8)) s8 s9 s10
  = next (out++encD m h x) (encH m h x:Nat) (encM m:Nat) s8 s9 (wrap .i64 (s10+1)):=by
 have hh16:h < 16:=by rcases hm with rfl | rfl | rfl <;> omega
 rw[held8 h x hh16 hx];rcases hm with rfl | rfl | rfl
 ·rw[show wrap .i64 (((0:Nat):Int)+8)=8 from rfl,qMx _ _ _ _ _ _ _ (by omega)];have e:qdu k0 next j (out++[z222 (((h*256+x) / 4:Nat):Int)]) ((h*256+x:Nat):Int) 2 s8 s9 s10=next (out++[z222 (((h*256+x) / 4:Nat):Int)]) (bits .and .i64 ((h*256+x:Nat):Int) ((2 ^ 2 - 1:Nat):Int)) 2 s8 s9 (wrap .i64 (s10+1)):=rfl;rw[e,qiX _ 2 (by omega) (by decide)];have e2:encD 0 h x=[z222 (((h*256+x) / 4:Nat):Int)]:=rfl;have e3:encH 0 h x=(h*256+x) % 2 ^ 2:=rfl;have e4:encM 0=2:=rfl;rw[e2,e3,e4];rfl
 ·rw[show wrap .i64 (((2:Nat):Int)+8)=10 from rfl,qMy _ _ _ _ _ _ _ (by omega)];have e:qdu k0 next j (out++[z222 (((h*256+x) / 16:Nat):Int)]) ((h*256+x:Nat):Int) 4 s8 s9 s10=next (out++[z222 (((h*256+x) / 16:Nat):Int)]) (bits .and .i64 ((h*256+x:Nat):Int) ((2 ^ 4 - 1:Nat):Int)) 4 s8 s9 (wrap .i64 (s10+1)):=rfl;rw[e,qiX _ 4 (by omega) (by decide)];have e2:encD 2 h x=[z222 (((h*256+x) / 16:Nat):Int)]:=rfl;have e3:encH 2 h x=(h*256+x) % 2 ^ 4:=rfl;have e4:encM 2=4:=rfl;rw[e2,e3,e4];rfl
 ·rw[show wrap .i64 (((4:Nat):Int)+8)=12 from rfl,qMz _ _ _ _ _ _ _ ho];have e0:qdu k0 next j (out++[z222 (((h*256+x) / 64:Nat):Int),z222 ((h*256+x:Nat):Int)]) ((h*256+x:Nat):Int) 0 s8 s9 s10=next (out++[z222 (((h*256+x) / 64:Nat):Int),z222 ((h*256+x:Nat):Int)]) (bits .and .i64 ((h*256+x:Nat):Int) ((2 ^ 0 - 1:Nat):Int)) 0 s8 s9 (wrap .i64 (s10+1)):=rfl;rw[e0,qiX _ 0 (by omega) (by decide)];have e3:encH 4 h x=(h*256+x) % 2 ^ 0:=rfl;have e4:encM 4=0:=rfl;have e:encD 4 h x=[z222 (((h*256+x) / 64:Nat):Int),z222 ((h*256+x:Nat):Int)]:=by
   show [z222 (((h*256+x:Nat):Int) / 64),_]=_;rw[Int.natCast_ediv];rfl
  rw[e,e3,e4];rfl
theorem qIH (m:Nat) (s out:LU) (mm h:Nat) (e:EncSt s out mm h) (ho:out.length+1≤room):qeO m out (h:Int) (mm:Int)=qxq (z138 s):=by
 have hc:=e.cases;have hl:=e.lt;unfold qeO;rcases hc with rfl | rfl | rfl
 ·rw[dF (by omega),yd,e.bare_nil]
 ·rw[e.bare_some (by decide),dT (by omega),yc];have e1:wrap .i64 ((h:Int)*2 ^ (min (toNat (wrap .i64 ((6:Int) - ((2:Nat):Int)))) (IntKind.bits .i64)))=((h*2 ^ (6 - 2):Nat):Int):=by
   show wrap .i64 ((h:Int)*16)=_;rw[IntWalk.i64_in _ (by omega)];omega
  rw[e1,dT (show (0:Int)≤wrap .i64 ((6:Int) - ((2:Nat):Int)) from by decide),yc,dT (show out.length+[_].length≤room from ho),yc]
 ·rw[e.bare_some (by decide),dT (by omega),yc];have e1:wrap .i64 ((h:Int)*2 ^ (min (toNat (wrap .i64 ((6:Int) - ((4:Nat):Int)))) (IntKind.bits .i64)))=((h*2 ^ (6 - 4):Nat):Int):=by
   show wrap .i64 ((h:Int)*4)=_;rw[IntWalk.i64_in _ (by omega)];omega
  rw[e1,dT (show (0:Int)≤wrap .i64 ((6:Int) - ((4:Nat):Int)) from by decide),yc,dT (show out.length+[_].length≤room from ho),yc]
theorem qmu (j:Nat) (s:LU) (hl:s.length≤1048576):∀ (d i n:Nat) (out:LU) (h m:Nat),i+d=s.length→d+3 < n→EncSt (s.take i) out m h→out.length≤2*i →
 qiM (qeO j) n out (h:Int) (m:Int) s (s.length:Nat) (i:Nat)=qxq (z138 s)
 | d,i,0,out,h,m,hi,hn,_,_=>by omega
 | 0,i,n+1,out,h,m,hi,hn,e,ho=>by
  obtain rfl:i=s.length:=by omega
  show qcp _ _ n _ _ _ _ _ _=_;unfold qcp;rw[dF (by omega),yd];rw[List.take_length] at e;exact qIH j s out m h e (by unfold room;omega)
 | d+1,i,n+1,out,h,m,hi,hn,e,ho=>by
  show qcp _ _ n _ _ _ _ _ _=_;unfold qcp;have hlt:i < s.length:=by omega
  have hx:=(s.getD i 0).toNat_lt;simp (disch:=omega) only [dT,yc,yi,tn];obtain⟨n',rfl⟩:∃ n',n=n'+3:=⟨n - 3,by omega⟩;rw[qDg _ _ _ n' out h m _ s _ _ e.cases e.lt hx (by unfold room;omega),qm (by omega)];have e2:=e.step (s.getD i 0);have ht:s.take i++[s.getD i 0]=s.take (i+1):=by
   rw[List.take_succ_eq_append_getElem hlt,yZ,yO hlt];rfl
  rw[ht] at e2;have hd:=qIy m h (s.getD i 0).toNat;exact qmu j s hl d (i+1) (n'+3) _ _ _ (by omega) (by omega) e2 (by rw[yn];omega)
theorem qDh:∀ (s0:LU),(qEl s0=true)→∃ n,qqH n s0=qxq (z182 s0):=fun s h=>⟨s.length+5,by
 have hl:=qd h;unfold qqH;exact qmu (s.length+5) s hl s.length 0 (s.length+5) [] 0 0 (by omega) (by omega) EncSt.nil (by simp)⟩
theorem qDi:∀ (t:LI),(qpN t=true)→∃ n,qqL n t=qEt (z223 t):=fun t h=>⟨t.length+1,by
 have hl:=qd (l:=t) h;unfold qqL z223;refine qid (qdC (L:=fun n i=>qiP qEt (qkh (t.length+1)) n t ((t.length:Nat):Int) i) hl (fun n i hi=>?_) (fun n=>?_) t.length 0 (t.length+1) (by omega) (by omega)) rfl
 ·show qdy _ _ _ n _ _ _=_;unfold qdy;simp (disch:=omega) only [dT,yc,yi,tn,qm];unfold z224;cases z161 (t.getD i 0) <;> rfl
 ·show qdy _ _ _ n _ _ _=_;unfold qdy;rw[dF (by omega)];rfl⟩
end
end Go.Av
