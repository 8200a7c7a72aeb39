import Derived.Test.YtmdadpepccbpcaaGreatDoorPoSh
import Derived.Test.YtmdadpepccbpcaaGreatDoorPoB
import Derived.Test.YtmdadpepccbpcaaGreatDoorAvE
import Derived.Lib.IndexAny
import Derived.Lib.IndexMore
import Derived.Lib.IndexBytes
import Derived.IntWalk
import Derived.KernelRfl
namespace Go.Av
set_option linter.unusedSimpArgs false
set_option linter.unusedVariables false
section
open List (getD length drop take replicate set)
open Int (toNat tmod tdiv)
open UInt8 (ofNat)
open IntKind (wrap)
variable {i:Nat} {x a b:Int} {s:LU}
theorem qto {α:Type} [DecidableEq α] {a b:List α} (ha:i < a.length) (hb:i < b.length) (d:α):decide (a.drop i=b.drop i)=bif a.getD i d != b.getD i d then false else decide (a.drop (i+1)=b.drop (i+1)):=by
 rw[qG (d:=d) ha,qG (d:=d) hb];generalize a.getD i d=x;generalize b.getD i d=y
 by_cases h:x=y
 ·subst h;simp
 ·simp[h]
theorem qAM (ret:Bool→OA) (a b:LU) (hab:a.length=b.length) (hl:a.length≤1048576):∀ (d i n:Nat),i+d=a.length→d < n →
 qok ret (ret true) n a b (i:Nat)=ret (decide (a.drop i=b.drop i))
 | d,i,0,hi,hn=>by omega
 | 0,i,n+1,hi,hn=>by
  show qgS ret (ret true) (qok ret (ret true) n) n a b _=_;unfold qgS;rw[yx (by omega),yd,yA (by omega),yA (by omega)];rfl
 | d+1,i,n+1,hi,hn=>by
  show qgS ret (ret true) (qok ret (ret true) n) n a b _=_;unfold qgS;have hlt:i < a.length:=by omega
  have hlt':i < b.length:=by omega
  have ih:=qAM ret a b hab hl d (i+1) n (by omega) (by omega);rw[qih,yo hlt,yc,qaa,y6,yc,y6,qih,yo hlt',yc,qj (by omega),qan,ih,qto hlt hlt' 0];cases (a.getD i 0 != b.getD i 0) <;> rfl
theorem qLP:∀ (a0:LU) (b1:LU),(qwE a0 b1=true)→∃ n,qFF n a0 b1=qzM (z10 a0 b1):=fun a b h=>⟨a.length+1,by
 unfold qFF z10
 by_cases hab:a.length=b.length
 ·rw[show (((a.length:Nat):Int) != ((b.length:Nat):Int))=false by simp[hab],yd];exact qAM qzM a b hab (qd h) a.length 0 (a.length+1) (by omega) (by omega)
 ·rw[show (((a.length:Nat):Int) != ((b.length:Nat):Int))=true by simp only[bne_iff_ne,ne_eq];omega,yc,yx (fun e=>hab (by rw[e]))]⟩
theorem qoo (c:UInt8):decide (((UInt8.toNat c:Nat):Int) < (256:Nat))=true:=by
 have:=c.toNat_lt;rw[yo];omega
theorem qFH:∀ (c0:UInt8),∃ n,qHS n c0=qHL (z228 c0):=fun c=>⟨0,by
 unfold qHS qdA qZ z228 qrV orI;cases decide (c < (32:UInt8)) <;> cases (c==(127:UInt8)) <;> cases (c==(32:UInt8)) <;> cases (c==(9:UInt8)) <;> cases decide ((48:UInt8)≤c) <;> cases decide (c≤(57:UInt8)) <;> cases decide ((65:UInt8)≤c) <;> cases decide (c≤(90:UInt8)) <;> cases decide ((97:UInt8)≤c) <;> cases decide (c≤(122:UInt8)) <;> rfl⟩
theorem qFI:∀ (s0:LU) (c1:UInt8),∃ n,qRb n s0 c1=qHL (z236 s0 c1):=fun _ _=>⟨0,rfl⟩
theorem qFJ:∀ (s0:LU) (c1:UInt8),∃ n,qRc n s0 c1=qHL (z216 s0 c1):=fun _ _=>⟨0,rfl⟩
theorem qFK:∀ (s0:LU) (c1:UInt8),∃ n,qRd n s0 c1=qzM (z229 s0 c1):=fun _ _=>⟨0,rfl⟩
theorem qFL:∀ (c0:UInt8),∃ n,qHT n c0=qHL (z198 c0):=fun c=>⟨0,by
 unfold qHT qbY qdB qbx z198 qCC orI;cases decide (c < (33:UInt8)) <;> cases decide ((126:UInt8) < c) <;> cases z229 [33,42,43,45,47] c <;> cases z229 [43,47] c <;> cases z229 [40,41,60,62,64,44,59,58,92,34,47,91,93,63,61] c <;> cases z229 [42,39,37] c <;> rfl⟩
theorem qFM:∀ (c0:UInt8) (kinds1:Int),∃ n,qRe n c0 kinds1=qzM (z144 c0 kinds1):=fun _ _=>⟨0,rfl⟩
theorem qhs (c:UInt8):c.toNat < 256:=c.toNat_lt
theorem qAN (cs:LU) (x:UInt8):∀ (a:List Bool),a.length=256→(setOf cs a).getD x.toNat false=(cs.contains x||a.getD x.toNat false):=by
 induction cs with
 | nil=>intro a _;simp[setOf]
 | cons c cs ih =>
  intro a hl;show (setOf cs (set a c.toNat true)).getD x.toNat false=_;rw[ih _ (by simpa using hl)];have hx:=qhs x;have hc:=qhs c
  by_cases e:c=x
  ·subst e;have:(set a c.toNat true).getD c.toNat false=true:=by simp[getD,hl,hc]
   rw[this];simp
  ·have hne:c.toNat≠x.toNat:=fun h=>e (UInt8.toNat_inj.1 h);have:(set a c.toNat true).getD x.toNat false=a.getD x.toNat false:=by simp[getD,List.getElem?_set_ne hne]
   rw[this];have hb:¬ x=c:=fun h=>e h.symm;simp[hb]
theorem dT {p:Prop} [Decidable p] (h:p):decide p=true:=yo h
theorem dF {p:Prop} [Decidable p] (h:¬ p):decide p=false:=yx h
theorem wr (h : -9223372036854775808≤x∧x≤9223372036854775807):wrap .i64 x=x:=IntWalk.i64_in x h
theorem tn (i:Nat):toNat (i:Int)=i:=Int.toNat_natCast i
theorem bneI (h:a≠b):(a==b)=false:=by simp[h]
theorem qn {α:Type} {l:List α} (h:l.length≤1048576):lenOk l=true:=by unfold lenOk;rw[ym];exact h
theorem qjA (p:UInt8→Bool) (t:LU) (x:UInt8):dropR p (t++[x])=bif p x then dropR p t else t++[x]:=by
 unfold dropR;rw[List.reverse_append,List.reverse_singleton,List.singleton_append,List.dropWhile_cons];cases p x <;> simp
theorem qbr (p:UInt8→Bool):∀ s:LU,(s.dropWhile p).length≤s.length
 | []=>by simp
 | c :: s=>by
  rw[List.dropWhile_cons];split
  ·have:=qbr p s;simp only[yg];omega
  ·exact yv _
theorem qqW (p:UInt8→Bool) (s:LU):(dropR p s).length≤s.length:=by
 have:=qbr p s.reverse;unfold dropR;simpa using this
theorem qib (p:UInt8→Bool) (s:LU):(qiN p s).length≤s.length:=yL (qbr p _) (qqW p s)
theorem qjB (cs:LU) (c:UInt8):z168 (z167 cs).1 c=cs.contains c:=by
 have:=qAN cs c (replicate 256 false) yQ;unfold z168 z167;have hc:c.toNat < 256:=c.toNat_lt;rw[this,yY,List.getElem?_replicate,if_pos hc];exact Bool.or_false _
theorem qRD (cs s:LU):z207 (z208 s (z167 cs).1) (z167 cs).1=z155 s cs:=by
 unfold z207 z208 z155 qiN;have e:(fun c=>z168 (z167 cs).1 c)=fun c=>cs.contains c:=funext fun c=>qjB cs c;rw[e]
theorem qRE (f:UInt8→UInt8) (s:LU) (i:Nat) (h:i < s.length):set (s.take i |>.map f |> fun l=>l++s.drop i) i (f (s.getD i 0))=(s.take (i+1)).map f++s.drop (i+1):=by
 have hg:=qG (d:=(0:UInt8)) h;have hl:((s.take i).map f).length=i:=by simp;omega
 rw[hg,List.set_append_right _ _ (by omega),hl,Nat.sub_self,List.set_cons_zero];rw[show s.take (i+1)=s.take i++[s.getD i 0] by
  rw[List.take_add_one];simp[getD,h]]
 simp
theorem qFN:(fun c:UInt8=>([32,9]:LU).contains c)=blank:=by
 funext c;unfold blank;simp only[List.contains_cons,List.contains_nil,Bool.or_false]
theorem qAO (ret:Bool→OA) (k0:OA) (hk:k0=ret false) (s:LU) (c:UInt8) (hl:s.length≤1048576):∀ (d i n:Nat),i+d=s.length→d < n →
 qho ret k0 n s c (i:Nat)=ret ((s.drop i).contains c)
 | d,i,0,hi,hn=>by omega
 | 0,i,n+1,hi,hn=>by
  show qdZ ret k0 (qho ret k0 n) n _ _ _=_;unfold qdZ;rw[dF (by omega),yd,yA (by omega),hk];rfl
 | d+1,i,n+1,hi,hn=>by
  show qdZ ret k0 (qho ret k0 n) n _ _ _=_;unfold qdZ;have hlt:i < s.length:=by omega
  have ih:=qAO ret k0 hk s c hl d (i+1) n (by omega) (by omega);rw[qG (d:=(0:UInt8)) hlt,List.contains_cons];simp (disch:=omega) only [dT,yc,yi,tn,qj];rw[ih,show (s.getD i 0==c)=(c==s.getD i 0) from Bool.beq_comm];cases (c==s.getD i 0) <;> rfl
theorem qFO (s:LU) (c:UInt8) (hl:s.length≤1048576):∃ n,qoa n s c=qzM (z225 s c):=⟨s.length+1,by
 unfold qoa;have:=qAO qzM (qlK (s.length+1)) rfl s c hl s.length 0 (s.length+1) (by omega) (by omega);exact this⟩
theorem qFP:∀ (s0:LU) (c1:UInt8),(qHC s0 c1=true)→∃ n,qoa n s0 c1=qzM (z225 s0 c1):=fun s c h=>qFO s c (qd h)
theorem qFQ:∀ (c0:UInt8) (kinds1:Int),∃ n,qRq n c0 kinds1=qzM (z136 c0 kinds1):=fun _ _=>⟨0,rfl⟩
theorem qLQ {P:UInt8→Prop} (h:∀ i:Fin 256,P (ofNat i.val)) (c:UInt8):P c:=by
 have:=h ⟨c.toNat,c.toNat_lt⟩;simpa using this
theorem qIM (x:UInt8) (s:LU) (c:UInt8):Lib.indexByte (x :: s) c=if (x==c)=true then 0 else if (Lib.indexByte s c == -1)=true then -1 else Lib.indexByte s c+1:=rfl
theorem ib_lt:∀ (s:LU) (c:UInt8),Lib.indexByte s c < (s.length:Int)
 | [],c=>by show (-1:Int) < ((0:Nat):Int);omega
 | x :: s,c=>by
  have:=ib_lt s c;have hg:=Lib.indexByte_ge s c;rw[qIM];simp only[yg];split
  ·omega
  ·split <;> omega
theorem qTE (n:Int):tmod (tmod n 16+16) 16=n % 16:=by
 have h:tmod n 16=n % 16∨tmod n 16=n % 16 - 16:=by
  rcases Int.le_total 0 n with h | h
  ·exact .inl (Int.tmod_eq_emod_of_nonneg h)
  ·have h2:tmod n 16 = -((-n) % 16):=by
    have:=Int.neg_tmod (-n) 16;rw[Int.neg_neg] at this;rw[this,Int.tmod_eq_emod_of_nonneg (by omega)]
   omega
 have h3:0≤tmod n 16+16:=by omega
 rw[Int.tmod_eq_emod_of_nonneg h3];omega
theorem qqX (n:Int) : -16 < tmod n 16∧tmod n 16 < 16:=by
 have h:tmod n 16=n % 16∨tmod n 16=n % 16 - 16∧n % 16≠0:=by
  rcases Int.le_total 0 n with h | h
  ·exact .inl (Int.tmod_eq_emod_of_nonneg h)
  ·have h2:tmod n 16 = -((-n) % 16):=by
    have:=Int.neg_tmod (-n) 16;rw[Int.neg_neg] at this;rw[this,Int.tmod_eq_emod_of_nonneg (by omega)]
   omega
 omega
theorem qqY:∀ j:Fin 16,(bif decide (((j.val:Nat):Int) < 10) then ofNat (toNat (wrap .u8 (wrap .i64 ((48:Int)+((j.val:Nat):Int)))))
 else ofNat (toNat (wrap .u8 (wrap .i64 ((wrap .i64 ((65:Int)+((j.val:Nat):Int))) - (10:Int))))))=getD hexD j.val 0:=by decide +kernel
theorem qFR:∀ (n0:Int),(qcm n0=true)→∃ n,qIs n n0=qlD (z189 n0):=fun n _=>⟨0,by
 unfold qIs qfM z189;have hr:=qqX n;rw[IntWalk.i64_in (tmod n 16+16) (by omega),qTE];have hj:(n % 16).toNat < 16:=by omega
 have:=qqY ⟨(n % 16).toNat,hj⟩;simp only[Int.toNat_of_nonneg (show 0≤n % 16 by omega)] at this;rw[← this];cases decide (n % 16 < 10) <;> rfl⟩
theorem qAP (c:UInt8):wrap .i64 ((UInt8.toNat c:Nat):Int)=((UInt8.toNat c:Nat):Int):=by
 have:=c.toNat_lt;exact IntWalk.i64_in _ (by omega)
theorem qqZ:∀ i:Fin 256,0≤(z230 (ofNat i.val)).1∧(z230 (ofNat i.val)).1 < 16:=by decide +kernel
theorem qvb {P:UInt8→Prop} (h:∀ i:Fin 256,P (ofNat i.val)) (c:UInt8):P c:=by
 have:=h ⟨c.toNat,c.toNat_lt⟩;simpa using this
theorem qem (c:UInt8):0≤(z230 c).1∧(z230 c).1 < 16:=qvb (P:=fun c=>0≤(z230 c).1∧(z230 c).1 < 16) qqZ c
theorem qLR:∀ a b:Fin 16,ofNat (toNat (wrap .u8 (bits .or .i64 (wrap .i64 (((a.val:Nat):Int)*2 ^ (min (toNat (4:Int)) (IntKind.bits .i64)))) ((b.val:Nat):Int))))=ofNat (toNat (((a.val:Nat):Int)*16+((b.val:Nat):Int))):=by decide +kernel
theorem qAQ {P:Int→Int→Prop} (h:∀ a b:Fin 16,P ((a.val:Nat):Int) ((b.val:Nat):Int)) {y:Int} (hx:0≤x∧x < 16) (hy:0≤y∧y < 16):P x y:=by
 have:=h ⟨x.toNat,by omega⟩ ⟨y.toNat,by omega⟩;simp only[Int.toNat_of_nonneg hx.1,Int.toNat_of_nonneg hy.1] at this;exact this
theorem qkC (s:LU) (at1:Int) (hl:s.length≤1048576) (h0:¬ at1 < 0) (h1:¬ wrap .i64 (((length s:Nat):Int) - 3) < at1):∃ i:Nat,at1=i∧i+2 < s.length:=by
 rw[IntWalk.i64_in _ (by omega)] at h1;exact⟨at1.toNat,by omega,by omega⟩
theorem qop:∀ i:Fin 256,[z189 (wrap .i64 (tdiv (wrap .i64 ((UInt8.toNat (ofNat i.val):Nat):Int)) (16:Int))),z189 (tmod (wrap .i64 ((UInt8.toNat (ofNat i.val):Nat):Int)) (16:Int))]=z219 (ofNat i.val):=by decide +kernel
theorem qvc:∀ i:Fin 256,qcm (wrap .i64 (tdiv (wrap .i64 ((UInt8.toNat (ofNat i.val):Nat):Int)) (16:Int)))=true∧qcm (tmod (wrap .i64 ((UInt8.toNat (ofNat i.val):Nat):Int)) (16:Int))=true ∧
 qkg (wrap .i64 ((UInt8.toNat (ofNat (UInt8.toNat (ofNat i.val) / 2 ^ (min (toNat (4:Int)) 8))):Nat):Int))=true∧qkg (wrap .i64 ((UInt8.toNat (ofNat i.val):Nat):Int))=true:=by decide +kernel
theorem qLS (c:UInt8):[z189 (wrap .i64 (tdiv (wrap .i64 ((UInt8.toNat c:Nat):Int)) (16:Int))),z189 (tmod (wrap .i64 ((UInt8.toNat c:Nat):Int)) (16:Int))]=z219 c:=qvb (P:=fun c=>[z189 (wrap .i64 (tdiv (wrap .i64 ((UInt8.toNat c:Nat):Int)) (16:Int))),z189 (tmod (wrap .i64 ((UInt8.toNat c:Nat):Int)) (16:Int))]=z219 c) qop c
theorem qTF (c:UInt8):qcm (wrap .i64 (tdiv (wrap .i64 ((UInt8.toNat c:Nat):Int)) (16:Int)))=true∧qcm (tmod (wrap .i64 ((UInt8.toNat c:Nat):Int)) (16:Int))=true ∧
 qkg (wrap .i64 ((UInt8.toNat (ofNat (UInt8.toNat c / 2 ^ (min (toNat (4:Int)) 8))):Nat):Int))=true∧qkg (wrap .i64 ((UInt8.toNat c:Nat):Int))=true:=qvb (P:=fun c=>qcm (wrap .i64 (tdiv (wrap .i64 ((UInt8.toNat c:Nat):Int)) (16:Int)))=true∧qcm (tmod (wrap .i64 ((UInt8.toNat c:Nat):Int)) (16:Int))=true ∧
 qkg (wrap .i64 ((UInt8.toNat (ofNat (UInt8.toNat c / 2 ^ (min (toNat (4:Int)) 8))):Nat):Int))=true∧qkg (wrap .i64 ((UInt8.toNat c:Nat):Int))=true) qvc c
theorem qFS:∀ (b0:LU) (sign1:UInt8) (c2:UInt8),(qna b0 sign1 c2=true)→∃ n,qIL n b0 sign1 c2=qAK (z137 b0 sign1 c2):=fun b sign c h=>⟨0,by
 have hl:=qd h;obtain⟨h1,h2,_,_⟩:=qTF c;unfold qIL qjx qdH z137;rw[h1,h2,yo (by unfold room;simp;omega),yi,yc,yc,yo (by unfold room;simp;omega),yc,← qLS c];rfl⟩
theorem beqT (h:a=b):(a==b)=true:=by simp[h]
theorem beqF (h:a≠b):(a==b)=false:=by simp[h]
theorem qFT:∀ (n0:Int),∃ n,qIf n n0=qlD (z185 n0):=fun c=>⟨0,by
 unfold qIf z185;cases (c==(2:Int)) <;> cases (c==(3:Int)) <;> cases (c==(4:Int)) <;> rfl⟩
theorem qFU:∃ n,qRj n  = qAf z176:=⟨0,rfl⟩
theorem qFV:∃ n,qIc n  = qAg z177:=⟨0,rfl⟩
theorem qLT {α β:Type} (f:α→β) (t:List α) (z:β) (i:Nat) (h:i < t.length) (d:α) :
 ((t.take i).map f++replicate (t.length - i) z).set i (f (t.getD i d))=(t.take (i+1)).map f++replicate (t.length - (i+1)) z:=by
 rw[List.set_append_right _ _ (by simp;omega)];have h1:((t.take i).map f).length=i:=by simp;omega
 rw[h1,Nat.sub_self,show t.length - i=(t.length - (i+1))+1 by omega,List.replicate_succ,List.set_cons_zero,List.take_succ_eq_append_getElem h,List.map_append,yl];simp[getD,h]
theorem qgX (x:UInt8):wrap .i32 ((UInt8.toNat x:Nat):Int)=((UInt8.toNat x:Nat):Int):=IntWalk.i32_in _ (by have:=x.toNat_lt;omega)
theorem qLU:∀ (x0:UInt8),∃ n,qRs n x0=qqB (z90 x0):=fun x=>⟨0,by
 unfold qRs z90;rw[qgX];cases (x==(164:UInt8)) <;> cases (x==(166:UInt8)) <;> cases (x==(168:UInt8)) <;> cases (x==(180:UInt8)) <;> cases (x==(184:UInt8)) <;> cases (x==(188:UInt8)) <;> cases (x==(189:UInt8)) <;> cases (x==(190:UInt8)) <;> rfl⟩
theorem qLV:∀ (x0:UInt8),∃ n,qRt n x0=qqB (z91 x0):=fun x=>⟨0,by
 unfold qRt qlX z91;rw[qgX];have hx:=x.toNat_lt
 by_cases h1:x < 128
 ·rw[dT h1];rfl
 ·by_cases h2:159 < x
  ·rw[dF h1,dT h2];rfl
  ·rw[dF h1,dF h2];have h3:128≤x.toNat:=by have:=UInt8.not_lt.1 h1;exact UInt8.le_iff_toNat_le.1 this
   have h4:x.toNat≤159:=by have:=UInt8.not_lt.1 h2;exact UInt8.le_iff_toNat_le.1 this
   have h5:(x - 128).toNat=x.toNat - 128:=UInt8.toNat_sub_of_le _ _ (UInt8.not_lt.1 h1);rw[h5];simp (disch:=(first | omega | (simp;omega))) only [dT,yi,yc,yd,Bool.or_false,tn];rfl⟩
theorem qjC {α β:Type} {t:List α} {dv:α} {f:α→List β} {q:α→Bool} {k0:List β→OA} {R:OA} {L:Nat→List β→Int→OA} {b:Nat} (hf:∀ x,(f x).length≤b)
 (hL:∀ (n i:Nat) (out:List β),i < t.length→out.length+b≤room→L (n+1) out (i:Int)=bif q (t.getD i dv) then L n (out++f (t.getD i dv)) ((i+1:Nat):Int) else R) (hE:∀ n out,L (n+1) out ((t.length:Nat):Int)=k0 out) :
 ∀ (d i n:Nat) (out:List β),i+d=t.length→d < n→out.length+b*d≤room→L n out (i:Int)=bif (t.drop i).all q then k0 (out++(t.drop i).flatMap f) else R
 | d,i,0,out,hi,hn,_=>by omega
 | 0,i,n+1,out,hi,hn,_=>by
  obtain rfl:i=t.length:=by omega
  rw[hE,yA (by omega)];simp
 | d+1,i,n+1,out,hi,hn,hb=>by
  have hlt:i < t.length:=by omega
  have hx:=hf (t.getD i dv);have hb':b*(d+1)=b*d+b:=by rw[Nat.mul_succ]
  have h0:0≤b*d:=Nat.zero_le _;rw[hL n i out hlt (by omega),qjC (α:=α) (β:=β) hf hL hE d (i+1) n _ (by omega) (by omega) (by rw[yn];omega),qG (d:=dv) hlt];simp only[List.all_cons,List.flatMap_cons,yl];cases q (t.getD i dv) <;> rfl
theorem qFW:∀ (charset0:Int),∃ n,qIB n charset0=qeS (z156 charset0):=fun cs=>⟨0,by
 unfold qIB z156;cases (cs==(1:Int)) <;> cases (cs==(2:Int)) <;> cases (cs==(3:Int)) <;> cases (cs==(4:Int)) <;> cases (cs==(5:Int)) <;> rfl⟩
theorem qFX:∀ (charset0:Int),∃ n,qIH n charset0=qeS (z101 charset0):=fun cs=>⟨0,by
 unfold qIH z101 z156;cases (cs==(1:Int)) <;> cases (cs==(2:Int)) <;> cases (cs==(3:Int)) <;> cases (cs==(4:Int)) <;> cases (cs==(5:Int)) <;> rfl⟩
theorem qjD {α β:Type} (f:α→β):∀ l:List α,l.flatMap (fun x=>[f x])=l.map f
 | []=>rfl
 | x :: r=>by rw[List.flatMap_cons,qjD f r];rfl
theorem qjE {α:Type}:∀ l:List α,l.all (fun _=>true)=true
 | []=>rfl
 | _ :: r=>by rw[List.all_cons,qjE r];rfl
theorem qaS (h:i < s.length):s.drop i=s.getD i 0 :: s.drop (i+1):=by
 rw[List.drop_eq_getElem_cons h,yY,yO h];rfl
theorem qex (c:UInt8):∀ s:LU,(bif decide ((0:Int)≤Lib.indexByte s c) then s.take (Lib.indexByte s c).toNat else s)=s.takeWhile fun x=>x != c
 | []=>rfl
 | x :: s=>by
  have ih:=qex c s;have hg:=Lib.indexByte_ge s c;rw[qIM,List.takeWhile_cons]
  by_cases hx:x=c
  ·subst hx;simp
  ·have h1:(x==c)=false:=beq_eq_false_iff_ne.2 hx;have h2:(x != c)=true:=by rw[bne,h1];rfl
   rw[h1,h2];simp only[yq,if_false,if_true];rw[← ih]
   by_cases h3:Lib.indexByte s c = -1
   ·rw[h3];rfl
   ·have h4:(Lib.indexByte s c == -1)=false:=by simpa using h3
    rw[h4];simp only[yq,if_false];rw[dT (by omega),dT (by omega),yc,yc,show (Lib.indexByte s c+1).toNat=(Lib.indexByte s c).toNat+1 by omega,List.take_succ_cons]
theorem qic (c:UInt8):qh c≤4:=by
 unfold qh;cases decide (c < 128) <;> cases decide (c < 194)||decide (244 < c) <;> cases decide (c < 224) <;> cases decide (c < 240) <;> decide
structure PutI (name cs:LU) (i:Nat) (st:PutT):Prop where
 e:st.1=true→i=0
 n:st.2.2.length+(bif st.1 then 0 else 1)≤i
 l:st.2.1.length≤name.length+cs.length+100
 l0:st.1=true→st.2.1.length≤name.length+cs.length+7
theorem qAR:∀ i:Fin 256,(bif decide ((65:UInt8)≤ofNat i.val) then (bif decide (ofNat i.val≤(90:UInt8)) then ofNat i.val+32 else ofNat i.val) else ofNat i.val)=z154 (ofNat i.val):=by decide +kernel
theorem qFY:∀ (c0:UInt8),∃ n,qIE n c0=qlD (z157 c0):=fun c=>⟨0,by
 have h:=qLQ (P:=fun c=>(bif decide ((65:UInt8)≤c) then (bif decide (c≤(90:UInt8)) then c+32 else c) else c)=z154 c) qAR c;unfold qIE z157;rw[← h];cases decide ((65:UInt8)≤c) <;> cases decide (c≤(90:UInt8)) <;> rfl⟩
theorem qLW:∀ (s0:LU),(quk s0=true)→∃ n,qFB n s0=qjo (z97 s0):=fun s h=>⟨s.length+1,by
 have hl:=qd h;unfold qFB;have:=qjC (t:=s) (dv:=0) (f:=fun c=>[z157 c]) (q:=fun _=>true) (b:=1) (k0:=qmb (s.length+1)) (R:=none)
  (L:=fun n out i=>quX (qmb (s.length+1)) n s out i) (fun x=>yv 1) (fun n i out hi hb=>by
   show qgM _ _ n _ _ _=_;unfold qgM;have hr:out.length+([z157 (s.getD i 0)]:LU).length≤room:=hb;simp (disch:=omega) only [dT,yc,yi,tn,qj];all_goals (rw[dT hr])
   all_goals rfl) (fun n out=>by
   show qgM _ _ n _ _ _=_;unfold qgM;rw[dF (by omega)];rfl) s.length 0 (s.length+1) [] (by omega) (by omega) (by show 0+_≤room;unfold room;omega)
 rw[yw,qjE,yc,List.nil_append,qjD] at this;exact this⟩
theorem qdg (ret:List Bool→Bool→OA) (k0:List Bool→OA) (cs:LU) (ha:ascii cs=true) (hl:cs.length≤1048576):∀ (d i n:Nat) (a:List Bool),i+d=cs.length→d < n →
 qhj ret k0 n cs a (i:Nat)=k0 (setOf (cs.drop i) a)
 | d,i,0,a,hi,hn=>by omega
 | 0,i,n+1,a,hi,hn=>by
  show qdT ret k0 (qhj ret k0 n) n cs a _=_;unfold qdT;rw[yx (by omega),yd,yA (by omega)];rfl
 | d+1,i,n+1,a,hi,hn=>by
  show qdT ret k0 (qhj ret k0 n) n cs a _=_;unfold qdT;have hlt:i < cs.length:=by omega
  have hc:decide ((128:UInt8)≤getD cs i 0)=false:=by
   unfold ascii at ha;rw[List.all_eq_true] at ha;have:=ha (cs.getD i 0) (by simp[getD,hlt]);rw[decide_eq_false_iff_not];simp only[ym] at this;exact UInt8.not_le.2 this
  rw[qih,yo hlt,yc,qaa,y6,yc,qan,hc,yd,qaa,qoo,y6,yc,qj (by omega),
   qdg ret k0 cs ha hl d (i+1) n _ (by omega) (by omega),qG (d:=0) hlt]
  rfl
theorem qFZ:∀ (chars0:LU),(qco chars0=true)→∃ n,qzN n chars0=qiZ (z167 chars0).1 (z167 chars0).2:=fun cs h=>⟨cs.length+1,by
 unfold qco at h;rw[yf] at h;exact qdg qiZ (qlC (cs.length+1)) cs h.1 (qd h.2) cs.length 0 (cs.length+1) _ (by omega) (by omega)⟩
theorem qGa:∀ (as0:List Bool) (c1:UInt8),∃ n,qHM n as0 c1=qzM (z168 as0 c1):=fun as c=>⟨0,by
 unfold qHM;rw[qaa,qoo];rfl⟩
theorem qGb:∀ (s0:LU) (c1:UInt8),(qwF s0 c1=true)→∃ n,qAz n s0 c1=qzR (z205 s0 c1):=fun _ _ h=>by cases h
theorem qGc:∀ (s0:LU) (c1:UInt8),(qrW s0 c1=true)→∃ n,qzS n s0 c1=qzR (z206 s0 c1):=fun _ _ h=>by cases h
theorem qoq (k0:LU→OA) (as:List Bool):∀ (d:Nat) (s:LU) (n:Nat),s.length=d→d < n→s.length≤1048576 →
 qjd k0 n s as=k0 (z208 s as)
 | d,s,0,hd,hn,hl=>by omega
 | d,s,n+1,hd,hn,hl=>by
  show qhS k0 (qjd k0 n) n s as=_;unfold qhS qaF z208;rcases List.eq_nil_or_concat s with rfl | ⟨t,x,rfl⟩
  ·rfl
  ·rw[List.concat_eq_append] at *
   have hlen:(t++[x]).length=t.length+1:=by simp
   have ih:=qoq k0 as t.length t n rfl (by omega) (by omega);have hg:(t++[x]).getD (toNat (((t++[x]).length:Int) - 1)) 0=x:=by
    rw[show toNat (((t++[x]).length:Int) - 1)=t.length by omega];simp
   have ht:take (toNat (((t++[x]).length:Int) - 1)) (t++[x])=t:=by
    rw[show toNat (((t++[x]).length:Int) - 1)=t.length by omega];simp
   simp (disch:=omega) only [wr,dT,yc,yi,hg,ht,qjA];cases z168 as x with
   | true=>simpa [z208] using ih
   | false=>rfl
theorem qGd:∀ (s0:LU) (as1:List Bool),(qhg s0 as1=true)→∃ n,qsJ n s0 as1=qzR (z208 s0 as1):=fun s as h=>⟨s.length+1,by
 unfold qsJ;rw[qoq _ as s.length s _ rfl (by omega) (qd h)];rfl⟩
theorem qor (k0:LU→OA) (as:List Bool):∀ (d:Nat) (s:LU) (n:Nat),s.length=d→d < n→s.length≤1048576 →
 qjv k0 n s as=k0 (z207 s as)
 | d,s,0,hd,hn,hl=>by omega
 | d,[],n+1,hd,hn,hl=>rfl
 | d,x :: s,n+1,hd,hn,hl=>by
  show qhY k0 (qjv k0 n) n (x :: s) as=_;unfold qhY z207;have hlen:(x :: s).length=s.length+1:=rfl;have ih:=qor k0 as s.length s n rfl (by omega) (by omega);have hg:(x :: s).getD (toNat 0) 0=x:=rfl;have ht:drop (toNat 1) (take (toNat ((x :: s).length:Int)) (x :: s))=s:=by
   rw[tn,List.take_length];rfl
  simp (disch:=omega) only [dT,yc,yi,hg,ht,List.dropWhile_cons];cases z168 as x with
  | true=>simpa [z207] using ih
  | false=>rfl
theorem qGe:∀ (s0:LU) (as1:List Bool),(qni s0 as1=true)→∃ n,qtj n s0 as1=qzR (z207 s0 as1):=fun s as h=>⟨s.length+1,by
 unfold qtj;rw[qor _ as s.length s _ rfl (by omega) (qd h)];unfold qlZ;cases hc:z207 s as with
 | nil=>rfl
 | cons x r=>rfl⟩
theorem qGf:∀ (s0:LU) (cutset1:LU),(qkk s0 cutset1=true)→∃ n,qAA n s0 cutset1=qzR (z155 s0 cutset1):=fun s cs h=>⟨0,by
 unfold qkk at h;simp only[yf,ym] at h;obtain⟨h1,h2,h3,h4⟩:=h;have hls:=qd h1;unfold qAA qfN qcc;cases s with
 | nil=>rfl
 | cons x r =>
  have hcs:(cs==([]:LU))=false:=by cases cs with
   | nil=>simp at h2
   | cons a b=>rfl
  have hlen:(x :: r).length=r.length+1:=rfl;have hm:qco cs=true:=by unfold qco;rw[h3,h4];rfl
  have hr:qni (z208 (x :: r) (z167 cs).1) (z167 cs).1=true:=qn (yL (qqW _ _) hls);rw[bneI (by omega),hcs,bneI (by omega),hm,show (z167 cs).2=true from rfl,show qhg (x :: r) (z167 cs).1=true from h1,hr,qRD];rfl⟩
theorem qGg:∀ (c0:UInt8),∃ n,qHU n c0=qlD (z154 c0):=fun c=>⟨0,by
 unfold qHU z154;cases decide ((65:UInt8)≤c) <;> cases decide (c≤(90:UInt8)) <;> rfl⟩
theorem qtp (k0:LU→OA) (s:LU) (hl:s.length≤1048576):∀ (d i n:Nat),i+d=s.length→d < n →
 qoe k0 n ((s.take i).map z154++s.drop i) (s.length:Nat) (i:Nat)=k0 (s.map z154)
 | d,i,0,hi,hn=>by omega
 | 0,i,n+1,hi,hn=>by
  show qgL k0 (qoe k0 n) n _ _ _=_;unfold qgL;rw[dF (by omega),yd,show i=s.length by omega,List.take_length,List.drop_length,yG]
 | d+1,i,n+1,hi,hn=>by
  show qgL k0 (qoe k0 n) n _ _ _=_;unfold qgL;have hlt:i < s.length:=by omega
  have ih:=qtp k0 s hl d (i+1) n (by omega) (by omega);have hlen:((s.take i).map z154++s.drop i).length=s.length:=by simp;omega
  have hg:((s.take i).map z154++s.drop i).getD i 0=s.getD i 0:=by
   rw[qG (d:=(0:UInt8)) hlt];simp[getD,Nat.min_eq_left (Nat.le_of_lt hlt)]
  have hs:=qRE z154 s i hlt;simp only at hs;simp (disch:=omega) only [dT,yc,yi,tn,qj,hlen,hg];rw[hs];exact ih
theorem qLX:∀ (s0:LU),(qum s0=true)→∃ n,qFz n s0=qjo (z92 s0):=fun s h=>⟨s.length+1,by
 unfold qFz;rw[show qeu s=true from h,show z153 s=s from rfl];exact qtp (qqO (s.length+1)) s (qd h) s.length 0 (s.length+1) (by omega) (by omega)⟩
theorem qGh:∀ (a0:LU) (b1:LU),∃ n,qRa n a0 b1=qzM (z194 a0 b1):=fun _ _=>⟨0,rfl⟩
theorem qLY:∀ (s0:LU),(qnj s0=true)→∃ n,qRv n s0=qjo (z93 s0):=fun s h=>⟨0,by
 have hl:=qd h;have h1:qkk s [32,9]=true:=by unfold qkk;rw[show lenOk s=true from h];rfl
 have e:z155 s [32,9]=z93 s:=by unfold z155 z93;rw[qFN]
 unfold qRv;rw[h1,e,show qeu (z93 s)=true from qn (yL (qib _ _) hl)];rfl⟩
theorem qGi:∀ (c0:UInt8),∃ n,qHV n c0=qje (z230 c0).1 (z230 c0).2:=fun c=>⟨0,by
 unfold qHV z230;have h:=(z154 c - 97).toNat_lt;rw[qAP,qAP,IntWalk.i64_in (((z154 c - 97).toNat:Int)+10) (by omega)];cases z144 (z154 c) 8 <;> cases decide ((97:UInt8)≤z154 c) <;> cases decide (z154 c≤(102:UInt8)) <;> rfl⟩
theorem qGj:∀ (a0:UInt8) (b1:UInt8),∃ n,qHW n a0 b1=qlE (z199 a0 b1).1 (z199 a0 b1).2:=fun a b=>⟨0,by
 unfold qHW z199;have h:=qAQ (P:=fun x y=>ofNat (toNat (wrap .u8 (bits .or .i64 (wrap .i64 (x*2 ^ (min (toNat (4:Int)) (IntKind.bits .i64)))) y)))=ofNat (toNat (x*16+y))) qLR (qem a) (qem b);rw[← h];cases (z230 a).2 <;> cases (z230 b).2 <;> rfl⟩
theorem qGk:∀ (s0:LU) (at1:Int) (sign2:UInt8),(qkh s0 at1 sign2=true)→∃ n,qHX n s0 at1 sign2=qlE (z145 s0 at1 sign2).1 (z145 s0 at1 sign2).2:=fun s at1 sign h=>⟨0,by
 have hl:=qd h;unfold qHX qjg z145
 by_cases h0:at1 < 0
 ·rw[yo h0,yx (show ¬ 0≤at1 by omega)];rfl
 by_cases h1:wrap .i64 (((length s:Nat):Int) - 3) < at1
 ·have h2:¬ at1≤(s.length:Int) - 3:=by rw[IntWalk.i64_in _ (by omega)] at h1;omega
  rw[yx h0,yo h1,yx h2,Bool.and_false];rfl
 obtain⟨i,rfl,hi⟩:=qkC s at1 hl h0 h1;rw[yx h0,yx h1,yd,yd,qaa,qih,yo (show i < s.length by omega),yi,yc,qan,qj (by omega),
  show wrap .i64 ((i:Int)+2)=((i+2:Nat):Int) by rw[IntWalk.i64_in _ (by omega)];omega,qaa,qaa,qih,qih,yo (show i+1 < s.length by omega),yo hi,qan,qan,
  yo (show (i:Int)≤(s.length:Int) - 3 by omega),yi,yc]
 unfold qjQ;cases he:(getD s i 0==sign) with
 | true=>rw[show (getD s i 0 != sign)=false by simp only[bne,he,Bool.not_true]];rfl
 | false=>rw[show (getD s i 0 != sign)=true by simp only[bne,he,Bool.not_false]];rfl⟩
theorem qGl:∀ (s0:LU) (suffix1:LU),(qkj s0 suffix1=true)→∃ n,qHP n s0 suffix1=qzM (z215 s0 suffix1):=fun s t h=>⟨0,by
 have hl:=qd h;unfold qHP z215
 by_cases hc:t.length≤s.length
 ·have e:wrap .i64 ((s.length:Int) - (t.length:Int))=((s.length - t.length:Nat):Int):=by rw[IntWalk.i64_in _ (by omega)];omega
  rw[e,tn,tn,List.take_length,dT hc];simp (disch:=omega) only [dT,yc,yi];rfl
 ·rw[dF hc,dF (by omega)];rfl⟩
theorem qLZ:∀ (b0:LU) (c1:UInt8),∃ n,qTB n b0 c1=qHL (z80 b0 c1):=fun _ _=>⟨0,rfl⟩
theorem qAS (m:Nat) (s:LU) (hl:s.length≤1048576):∀ (d i n:Nat),i+d=s.length→d < n →
 quO (qqA m) n ((s.take i).map (fun c:UInt8=>(c.toNat:Int))++replicate (s.length - i) 0) s (s.length:Nat) (i:Nat)=qAd (s.map fun c:UInt8=>(c.toNat:Int))
 | d,i,0,hi,hn=>by omega
 | 0,i,n+1,hi,hn=>by
  obtain rfl:i=s.length:=by omega
  show qgu _ _ n _ _ _ _=_;unfold qgu;rw[dF (by omega),Nat.sub_self,List.take_length];simp only[yd,List.replicate_zero,yG];rfl
 | d+1,i,n+1,hi,hn=>by
  show qgu _ _ n _ _ _ _=_;unfold qgu;have hlen:((s.take i).map (fun c:UInt8=>(c.toNat:Int))++replicate (s.length - i) (0:Int)).length=s.length:=by
   rw[yn,yP,yz,yQ];omega
  rw[hlen];simp (disch:=omega) only [dT,yc,yi,tn,qj];rw[qgX,qLT (fun c:UInt8=>((UInt8.toNat c:Nat):Int)) s 0 i (by omega) 0];exact qAS m s hl d (i+1) n (by omega) (by omega)
theorem qMa:∀ (s0:LU),(quh s0=true)→∃ n,qFo n s0=qAd (z59 s0):=fun s h=>⟨s.length+1,by
 have hl:=qd h;unfold qFo;have hr:((s.length:Nat):Int)≤(room:Int):=by unfold room;omega
 simp (disch:=omega) only [dT,yc,yi,tn];have:=qAS (s.length+1) s hl s.length 0 (s.length+1) (by omega) (by omega);exact this⟩
theorem qGm:∀ (c0:Int),∃ n,qIa n c0=qqB (z114 c0):=fun c=>⟨0,by
 unfold qIa z114;cases decide (128≤c) <;> rfl⟩
theorem qos (m:Nat) (t:LI) (hl:t.length≤1048576):∀ (d i n:Nat),i+d=t.length→d < n →
 quP (qqC m) n ((t.take i).map z114++t.drop i) (t.length:Nat) (i:Nat)=qAd (t.map z114)
 | d,i,0,hi,hn=>by omega
 | 0,i,n+1,hi,hn=>by
  obtain rfl:i=t.length:=by omega
  show qgv _ _ n _ _ _=_;unfold qgv;rw[dF (by omega),List.drop_length,List.take_length,yG];rfl
 | d+1,i,n+1,hi,hn=>by
  show qgv _ _ n _ _ _=_;unfold qgv;have hlt:i < t.length:=by omega
  have hml:((t.take i).map z114).length=i:=by rw[yP,yz];omega
  have hlen:((t.take i).map z114++t.drop i).length=t.length:=by
   rw[yn,hml,yK];omega
  rw[hlen];simp (disch:=omega) only [dT,yc,yi,tn,qj];have hg:((t.take i).map z114++t.drop i).getD i 0=t[i]:=by
   rw[yY,yN (by omega),hml,Nat.sub_self,List.getElem?_drop,Nat.add_zero,yO hlt];rfl
  have hs:((t.take i).map z114++t.drop i).set i (z114 t[i])=(t.take (i+1)).map z114++t.drop (i+1):=by
   rw[List.set_append_right _ _ (by omega),hml,Nat.sub_self,List.drop_eq_getElem_cons hlt,List.set_cons_zero,List.take_succ_eq_append_getElem hlt,List.map_append,yl];rfl
  rw[hg,hs];exact qos m t hl d (i+1) n (by omega) (by omega)
theorem qMb:∀ (s0:LU),(qCt s0=true)→∃ n,qFp n s0=qAd (z55 s0):=fun s h=>⟨s.length+1,by
 have hl:=qd h;unfold qFp;rw[show quh s=true from h];have hlen:(z59 s).length=s.length:=by unfold z59;rw[yP]
 have:=qos (s.length+1) (z59 s) (by omega) s.length 0 (s.length+1) (by omega) (by omega);have e:(z59 s).map z114=z55 s:=by
  unfold z59 z55;rw[List.map_map];rfl
 rw[e] at this;exact this⟩
theorem qGn:∀ (x0:UInt8),∃ n,qsO n x0=qqB (z115 x0):=fun x=>⟨9,by
 have e:qsO 9 x=bif (164:UInt8)==x then qqB 8364 else bif (166:UInt8)==x then qqB 352 else bif (168:UInt8)==x then qqB 353 else bif (180:UInt8)==x then qqB 381
  else bif (184:UInt8)==x then qqB 382 else bif (188:UInt8)==x then qqB 338 else bif (189:UInt8)==x then qqB 339 else bif (190:UInt8)==x then qqB 376 else qqB (wrap .i32 ((UInt8.toNat x:Nat):Int)):=by rfl
 rw[e,qgX];unfold z115 z90;have hc:∀ k:UInt8,(k==x)=(x==k):=fun k=>by
  cases h:x==k with
  | true=>rw[beq_iff_eq] at h;subst h;simp
  | false=>rw[yB] at h ⊢;exact fun e=>h e.symm
 simp only[hc];cases (x==(164:UInt8)) <;> cases (x==(166:UInt8)) <;> cases (x==(168:UInt8)) <;> cases (x==(180:UInt8)) <;> cases (x==(184:UInt8)) <;> cases (x==(188:UInt8)) <;> cases (x==(189:UInt8)) <;> cases (x==(190:UInt8)) <;> rfl⟩
theorem qMc:∀ (s0:LU),(qCr s0=true)→∃ n,qFq n s0=qAd (z56 s0):=fun s h=>⟨s.length+1,by
 have hl:=qd h;unfold qFq;have:=qjC (t:=s) (dv:=0) (f:=fun c=>[z115 c]) (q:=fun _=>true) (b:=1) (k0:=qlG (s.length+1)) (R:=none)
  (L:=fun n out i=>quQ (qlG (s.length+1)) n out s (s.length:Nat) i) (fun x=>yv 1) (fun n i out hi hb=>by
   show qgw _ _ n _ _ _ _=_;unfold qgw;have hr:out.length+([z115 (s.getD i 0)]:LI).length≤room:=hb;simp (disch:=omega) only [dT,yc,yi,tn,qj];all_goals (rw[dT hr])
   all_goals rfl) (fun n out=>by
   show qgw _ _ n _ _ _ _=_;unfold qgw;rw[dF (by omega)];rfl) s.length 0 (s.length+1) [] (by omega) (by omega) (by show 0+_≤room;unfold room;omega)
 rw[yw,qjE,yc,List.nil_append,qjD] at this;exact this⟩
theorem qMd:∀ (s0:LU),(qCs s0=true)→∃ n,qFr n s0=qAd (z57 s0):=fun s h=>⟨s.length+1,by
 have hl:=qd h;unfold qFr;have hr:((s.length:Nat):Int)≤(room:Int):=by unfold room;omega
 have:=qjC (t:=s) (dv:=0) (f:=fun c=>[z116 c]) (q:=fun _=>true) (b:=1) (k0:=qlH (s.length+1)) (R:=none)
  (L:=fun n out i=>quR (qlH (s.length+1)) n out s (s.length:Nat) i) (fun x=>yv 1) (fun n i out hi hb=>by
   show qgx _ _ n _ _ _ _=_;unfold qgx;have hr:out.length+([z116 (s.getD i 0)]:LI).length≤room:=hb;simp (disch:=omega) only [dT,yc,yi,tn,qj];all_goals (rw[dT hr])
   all_goals rfl) (fun n out=>by
   show qgx _ _ n _ _ _ _=_;unfold qgx;rw[dF (by omega)];rfl) s.length 0 (s.length+1) [] (by omega) (by omega) (by show 0+_≤room;unfold room;omega)
 rw[yw,qjE,yc,List.nil_append,qjD] at this;simp (disch:=omega) only [dT,yc,yi];exact this⟩
theorem qMe:∀ (charset0:Int) (s1:LU),(qnc charset0 s1=true)→∃ n,qRk n charset0 s1=qAg (z29 charset0 s1):=fun cs s h=>⟨0,by
 have h':lenOk s=true:=h;unfold qRk z29;rw[show qCt s=true from h',show qCr s=true from h',show qCs s=true from h',show qCq s=true from h',show quh s=true from h'];cases (cs==(1:Int)) <;> cases (cs==(3:Int)) <;> cases (cs==(4:Int)) <;> cases (cs==(5:Int)) <;> rfl⟩
theorem qMf:∃ n,qLK n  = qIC (z95 ):=⟨10,by kernel_rfl⟩
theorem qMg:∀ (s0:LU),(qCv s0=true)→∃ n,qRx n s0=qjo (z96 s0):=fun s h=>⟨0,by
 have hl:=qd h;have ht:=qex 42 s;have hlt:=ib_lt s 42;unfold qRx z96;rw[← ht]
 by_cases hi:(0:Int)≤Lib.indexByte s 42
 ·rw[show decide ((0:Int)≤z80 s 42)=true from dT hi,dT hi,yc,yc];rw[show z80 s 42=Lib.indexByte s 42 from rfl,dT (show (0:Int)≤((0:Nat):Int) by omega),dT (show ((0:Nat):Int)≤Lib.indexByte s 42 by omega),dT (show Lib.indexByte s 42≤((s.length:Nat):Int) by omega)];have hk:qnj (drop (toNat ((0:Nat):Int)) (take (toNat (Lib.indexByte s 42)) s))=true:=qn (by rw[tn,yw,yz];omega);rw[hk];rfl
 ·rw[show decide ((0:Int)≤z80 s 42)=false from dF hi,dF hi,yd,yd,show qnj s=true from h];rfl⟩
theorem qGo:∀ (c0:UInt8),∃ n,qIg n c0=qHL (z218 c0):=fun c=>⟨0,by
 unfold qIg z218 qh;cases decide (c < 128) <;> cases decide (c < 194) <;> cases decide (244 < c) <;> cases decide (c < 224) <;> cases decide (c < 240) <;> rfl⟩
theorem qGp:∀ (first0:UInt8) (c1:UInt8),∃ n,qIi n first0 c1=qzM (z238 first0 c1):=fun f c=>⟨0,by
 unfold qIi z238;cases (f==224) <;> cases (f==237) <;> cases (f==240) <;> cases (f==244) <;> cases decide (160≤c) <;> cases decide (c < 160) <;> cases decide (144≤c) <;> cases decide (c < 144) <;> rfl⟩
theorem qAT (m:Nat) (x:UInt8) (r:LU) (hl:r.length≤1048576):∀ (d i n:Nat),qh x=i+d→1≤i→i≤r.length+1→d < n →
 qjk qHL (qaQ m) n (x :: r) (i:Nat)=qHL ((i+runB x d (i==1) (r.drop (i - 1)):Nat):Int)
 | d,i,0,_,_,_,hn=>by omega
 | 0,i,n+1,hs,hi,hr,hn=>by
  show qcq _ _ _ n _ _=_;unfold qcq;have e0:z218 (getD (x :: r) (toNat 0) 0)=((qh x:Nat):Int):=rfl;have h0:decide ((0:Int) < (((x :: r).length:Nat):Int))=true:=dT (by simp only[yg];omega);rw[e0,h0,dF (show ¬ ((i:Nat):Int) < ((qh x:Nat):Int) by omega)];have hr0:runB x 0 (i==1) (r.drop (i - 1))=0:=by cases r.drop (i - 1) <;> rfl
  rw[hr0];show qaQ m (x :: r) ((i:Nat):Int)=_;unfold qaQ;rw[e0,h0];show qHL (bif decide (((qh x:Nat):Int) < ((i:Nat):Int)) then _ else _)=_;rw[dF (by omega)];rfl
 | d+1,i,n+1,hs,hi,hr,hn=>by
  show qcq _ _ _ n _ _=_;unfold qcq;have e0:z218 (getD (x :: r) (toNat 0) 0)=((qh x:Nat):Int):=rfl;have h0:decide ((0:Int) < (((x :: r).length:Nat):Int))=true:=dT (by simp only[yg];omega);rw[e0,h0,dT (show ((i:Nat):Int) < ((qh x:Nat):Int) by omega)];simp only[yc,yi,show decide ((0:Int)≤0)=true from rfl]
  by_cases hlt:i < (x :: r).length
  ·have hlt':i - 1 < r.length:=by simp only[yg] at hlt;omega
   obtain⟨y,hy⟩:∃ y,r.getD (i - 1) 0=y:=⟨_,rfl⟩;have hg:(x :: r).getD i 0=y:=by
    obtain⟨k,rfl⟩:∃ k,i=k+1:=⟨i - 1,by omega⟩;exact hy
   have hdr:r.drop (i - 1)=y :: r.drop i:=by
    have:=qaS hlt';rw[this,hy,show i - 1+1=i by omega]
   rw[dT (show ((i:Nat):Int) < (((x :: r).length:Nat):Int) by omega),dT (show (0:Int)≤((i:Nat):Int) by omega),tn,hg,hdr];simp only[yc,yi];have hrun:runB x (d+1) (i==1) (y :: r.drop i)=bif z237 y&&(!(i==1)||z238 x y) then runB x d false (r.drop i)+1 else 0:=rfl
   have ih:=qAT m x r hl d (i+1) n (by omega) (by omega) (by simp only[yg] at hlt;omega) (by omega);rw[show i+1 - 1=i by omega,show (i+1==1)=false by simp;omega] at ih;rw[hrun];cases hf:z237 y with
   | false=>simp only[Bool.not_false,yc,Bool.false_and,yd,Nat.add_zero]
   | true =>
    simp only[Bool.not_true,yd,y6];have hfin:qjk qHL (qaQ m) n (x :: r) (wrap .i64 (((i:Nat):Int)+1))=qHL ((i+(runB x d false (r.drop i)+1):Nat):Int):=by
     rw[qj (by omega),ih,show i+1+runB x d false (r.drop i)=i+(runB x d false (r.drop i)+1) by omega]
    by_cases h1:i=1
    ·subst h1;rw[show (((1:Nat):Int)==1)=true from rfl,show ((1:Nat)==1)=true from rfl,yc,dT (show (1:Int) < (((x :: r).length:Nat):Int) by omega)];simp only[show decide ((0:Int)≤1)=true from rfl,yi,yc];have e1:getD (x :: r) (toNat 1) 0=y:=hg;have e2:getD (x :: r) (toNat 0) 0=x:=rfl;rw[e1,e2];cases hs2:z238 x y with
     | false=>rfl
     | true =>
      simp only[Bool.not_true,yd,Bool.false_or,yc];exact hfin
    ·rw[show (((i:Nat):Int)==1)=false by simp;omega,show (i==1)=false by simpa using h1];simp only[yd,Bool.not_false,Bool.true_or,yc];exact hfin
  ·have hi2:i=r.length+1:=by simp only[yg] at hlt;omega
   rw[dF (show ¬ ((i:Nat):Int) < (((x :: r).length:Nat):Int) by omega),yd,yA (by omega)];show qaQ m (x :: r) ((i:Nat):Int)=qHL ((i+0:Nat):Int);unfold qaQ;rw[e0,h0];show qHL (bif decide (((qh x:Nat):Int) < ((i:Nat):Int)) then _ else _)=_;rw[dF (by omega)];rfl
theorem qGq:∀ (s0:LU),(qki s0=true)→∃ n,qsP n s0=qHL (z217 s0):=fun s h=>⟨6,by
 unfold qki at h;rw[yf] at h;have hl:=qd h.1;match s,h.2 with
 | x :: r,_ =>
  simp only[yg] at hl;have h4:=qic x;have ef:z217 (x :: r)=((bif qh x==0 then 0 else 1+runB x (qh x - 1) true r:Nat):Int):=rfl;unfold qsP;rw[ef]
  by_cases h0:qh x=0
  ·rw[show (qh x==0)=true by simpa using h0,yc];have e0:z218 (getD (x :: r) (toNat 0) 0)=((qh x:Nat):Int):=rfl;have h0':decide ((0:Int) < (((x :: r).length:Nat):Int))=true:=dT (by simp only[yg];omega);show qcq qHL (qaQ 6) _ 5 (x :: r) 1=_;unfold qcq;rw[e0,h0',dF (show ¬ (1:Int) < ((qh x:Nat):Int) by omega)];show qaQ 6 (x :: r) 1=_;unfold qaQ;rw[e0,h0'];show qHL (bif decide (((qh x:Nat):Int) < (1:Int)) then ((qh x:Nat):Int) else _)=_;rw[dT (by omega),h0];rfl
  ·rw[show (qh x==0)=false by simpa using h0,yd];have:=qAT 6 x r (by omega) (qh x - 1) 1 6 (by omega) (yv 1) (by omega) (by omega);rw[show (1:Nat) - 1=0 from rfl,yw] at this;exact this⟩
theorem qGr:∀ (c0:Int) (e1:Int) (x2:LI),(qrU c0 e1 x2=true)→∃ n,qAh n c0 e1 x2=qqD (z118 c0 e1 x2):=fun c e t h=>⟨0,by
 have hl:t.length≤2097152:=of_decide_eq_true h;unfold qAh z118;have hr:∀ y:Int,t.length+([y]:LI).length≤room:=fun y=>by show t.length+1≤room;unfold room;omega
 rw[dT (hr 65533),dT (hr c)];cases (e != 0) <;> rfl⟩
theorem qMh:∀ (s0:LU),(qCq s0=true)→∃ n,qLD n s0=qAg (z58 s0):=fun s h=>⟨0,by
 unfold qLD;have hok:qcB s []=true:=by unfold qcB;rw[show lenOk s=true from h];rfl
 first
  | (rw[hok];rfl)
  | rfl⟩
theorem qAU (ret:Bool→OA) (a b:LI) (hab:a.length=b.length) (hl:a.length≤1048576):∀ (d i n:Nat),i+d=a.length→d < n →
 qnW ret (ret true) n a b (i:Nat)=ret (decide (a.drop i=b.drop i))
 | d,i,0,hi,hn=>by omega
 | 0,i,n+1,hi,hn=>by
  show qgB ret (ret true) (qnW ret (ret true) n) n a b _=_;unfold qgB;rw[yx (by omega),yd,yA (by omega),yA (by omega)];rfl
 | d+1,i,n+1,hi,hn=>by
  show qgB ret (ret true) (qnW ret (ret true) n) n a b _=_;unfold qgB;have hlt:i < a.length:=by omega
  have hlt':i < b.length:=by omega
  have ih:=qAU ret a b hab hl d (i+1) n (by omega) (by omega);simp (disch:=omega) only [dT,yc,yi,tn,qj];rw[ih,qto hlt hlt' 0];cases (a.getD i 0 != b.getD i 0) <;> rfl
theorem qMi:∀ (a0:LI) (b1:LI),(qul a0 b1=true)→∃ n,qFt n a0 b1=qzM (z11 a0 b1):=fun a b h=>⟨a.length+1,by
 unfold qFt z11
 by_cases hab:a.length=b.length
 ·rw[show (((a.length:Nat):Int) != ((b.length:Nat):Int))=false by simp[hab],yd];exact qAU qzM a b hab (qd h) a.length 0 (a.length+1) (by omega) (by omega)
 ·rw[show (((a.length:Nat):Int) != ((b.length:Nat):Int))=true by simp only[bne_iff_ne,ne_eq];omega,yc,yx (fun e=>hab (by rw[e]))]⟩
theorem qMj:∀ (s0:LU) (sep1:LU),(qjS s0 sep1=true)→∃ n,qRm n s0 sep1=qAl (z82 s0 sep1).1 (z82 s0 sep1).2.1 (z82 s0 sep1).2.2:=fun s sep h=>⟨0,by
 have h0:=h;unfold qjS at h;rw[yf] at h;have hl:=qd h.1;have hl2:=qd (yf _ _ ▸ h.2).1;unfold qRm z82 z143;rw[show qiM s sep=true from h0]
 by_cases h1:0≤Lib.index s sep
 ·have hr:=Lib.index_room s sep h1;have e:wrap .i64 (Lib.index s sep+((sep.length:Nat):Int))=Lib.index s sep+((sep.length:Nat):Int):=IntWalk.i64_in _ (by omega);rw[e,yo h1,yo (show (0:Int)≤((0:Nat):Int) by omega),yo (show ((0:Nat):Int)≤Lib.index s sep by omega),yo (show Lib.index s sep≤((s.length:Nat):Int) by omega),
   yo (show (0:Int)≤Lib.index s sep+((sep.length:Nat):Int) by omega),yo (show Lib.index s sep+((sep.length:Nat):Int)≤((s.length:Nat):Int) by omega),yo (Int.le_refl ((s.length:Nat):Int)),qan,qan,List.take_length,
   show toNat (Lib.index s sep+((sep.length:Nat):Int))=(Lib.index s sep).toNat+sep.length by omega]
  rfl
 ·rw[yx h1];rfl⟩
theorem qGs:∀ (s0:LU) (suffix1:LU),(qrX s0 suffix1=true)→∃ n,qHQ n s0 suffix1=qqx (z173 s0 suffix1).1 (z173 s0 suffix1).2:=fun s t h=>⟨0,by
 have hl:=qd h;unfold qHQ z173;rw[show qkj s t=true from h]
 by_cases hc:t.length≤s.length
 ·have e:wrap .i64 ((s.length:Int) - (t.length:Int))=((s.length - t.length:Nat):Int):=by rw[IntWalk.i64_in _ (by omega)];omega
  rw[e,tn];simp (disch:=omega) only [dT,yc,yi];cases z215 s t <;> rfl
 ·have e:z215 s t=false:=by unfold z215;rw[dF hc];rfl
  rw[e];rfl⟩
def qMk (x:UInt8):Bool:=decide (x < 128)||(decide (160≤x)||((decide ((0:Int)≤((UInt8.toNat (x - (128:UInt8)):Nat):Int)))&&(decide (((UInt8.toNat (x - (128:UInt8)):Nat):Int) < (length z177:Nat))) &&
 ((bif ((getD z177 (toNat ((UInt8.toNat (x - (128:UInt8)):Nat):Int)) (0:Int)) != (0:Int)) then (getD z177 (toNat ((UInt8.toNat (x - (128:UInt8)):Nat):Int)) (0:Int)) else 65533)==z91 x)))
theorem qAV:∀ i:Fin 256,qMk (ofNat i.val)=true:=by decide +kernel
theorem qGt:∀ (x0:UInt8),∃ n,qId n x0=qqB (z116 x0):=fun x=>⟨0,by
 have hm:=qcn (P:=fun x=>qMk x=true) qAV x;unfold qId qdC z116;rw[qgX];cases h1:decide (x < (128:UInt8)) with
 | true=>unfold z91;rw[h1];rfl
 | false =>
  cases h2:decide ((160:UInt8)≤x) with
  | true =>
   have h3:decide ((159:UInt8) < x)=true:=by
    have h2':=of_decide_eq_true h2;apply yo;rw[UInt8.le_iff_toNat_le] at h2';rw[UInt8.lt_iff_toNat_lt];exact h2'
   unfold z91;rw[h1,h3];rfl
  | false =>
   unfold qMk at hm;rw[h1,h2,Bool.false_or,Bool.false_or,yf,beq_iff_eq] at hm;rw[yd,yd,hm.1,yc,← hm.2];cases ((getD z177 (toNat ((UInt8.toNat (x - (128:UInt8)):Nat):Int)) (0:Int)) != (0:Int)) <;> rfl⟩
theorem qtq (k:LU):∀ l:List (LU×Int),@findM .str (.int .i64) k l=qjR k l
 | []=>rfl
 | p :: l=>by
  show (bif k==p.1 then some p.2 else @findM .str (.int .i64) k l)=_;rw[qtq k l];rfl
theorem qIN (s:LU):(z96 s).length≤s.length:=by
 unfold z96 z93;exact yL (qib _ _) (qcl _ _)
theorem qMl:∀ (s0:LU),(qCw s0=true)→∃ n,qLL n s0=qfO (z44 s0).1 (z44 s0).2:=fun s h=>⟨0,by
 have hl:=qd h;have hb:=qIN s;unfold qLL z44;rw[show qCv s=true from h,show qum (z96 s)=true from qn (by omega),qtq];cases qjR (z92 (z96 s)) z95 <;> rfl⟩
theorem qot:∀ i:Fin 256,(((ofNat i.val) &&& ~~~ (63:UInt8))==(128:UInt8))=z237 (ofNat i.val):=by decide +kernel
theorem qGu:∀ (c0:UInt8),∃ n,qIh n c0=qzM (z237 c0):=fun c=>⟨0,by
 unfold qIh;rw[qcn (P:=fun c=>((c &&& ~~~ (63:UInt8))==(128:UInt8))=z237 c) qot c]⟩
theorem qIO:∀ (f:UInt8) (n:Nat) (one:Bool) (s:LU),runB f n one s≤n∧runB f n one s≤s.length
 | f,0,one,s=>by cases s <;> exact⟨yv _,Nat.zero_le _⟩
 | f,n+1,one,[]=>⟨Nat.zero_le _,Nat.zero_le _⟩
 | f,n+1,one,x :: r=>by
  have ih:=qIO f n false r;show (bif z237 x&&(!one||z238 f x) then runB f n false r+1 else 0)≤n+1∧(bif z237 x&&(!one||z238 f x) then runB f n false r+1 else 0)≤r.length+1;cases z237 x&&(!one||z238 f x)
  ·exact⟨Nat.zero_le _,Nat.zero_le _⟩
  ·simp only[yc];omega
theorem qMm (a b:Nat) (hb:b < 64) (h:a*64+b < 2147483648):bits .or .i32 ((a*64:Nat):Int) (b:Int)=((a*64+b:Nat):Int):=by
 have h1:(BitVec.ofInt 32 ((a*64:Nat):Int)).toNat=a*64:=by rw[BitVec.toNat_ofInt];omega
 have h2:(BitVec.ofInt 32 ((b:Nat):Int)).toNat=b:=by rw[BitVec.toNat_ofInt];omega
 have h3:(BitVec.ofInt 32 ((a*64:Nat):Int) ||| BitVec.ofInt 32 (b:Int)).toNat=a*64+b:=by
  rw[BitVec.toNat_or,h1,h2];have:=Nat.shiftLeft_add_eq_or_of_lt (i:=6) hb a;rw[Nat.shiftLeft_eq] at this;exact this.symm
 show wrap .i32 (((BitVec.ofInt 32 ((a*64:Nat):Int) ||| BitVec.ofInt 32 (b:Int)).toNat:Nat):Int)=_;rw[h3,IntWalk.i32_in _ (by omega)]
def foldS (t:LU) (c:Int):Int:=t.foldl (fun c y=>c*64+((y &&& 63).toNat:Int)) c
theorem qAW:∀ i:Fin 256,((ofNat i.val) &&& (63:UInt8)).toNat < 64:=by decide +kernel
theorem low6 (y:UInt8):(y &&& 63).toNat < 64:=qcn (P:=fun y=>(y &&& 63).toNat < 64) qAW y
theorem qkD (m:Nat) (t:LU) (n5:Int) (hl:t.length≤1048576):∀ (d i n b c:Nat),i+d=t.length→d < n→c < b→b*64 ^ d≤67108864 →
 qeL (qfG m) n n5 (c:Int) t (t.length:Nat) (i:Nat)=qcT (foldS (t.drop i) c) n5 0
 | d,i,0,b,c,hi,hn,_,_=>by omega
 | 0,i,n+1,b,c,hi,hn,_,_=>by
  obtain rfl:i=t.length:=by omega
  show qcF _ _ n _ _ _ _ _=_;unfold qcF;rw[dF (by omega),yd,List.drop_length];rfl
 | d+1,i,n+1,b,c,hi,hn,hc,hb=>by
  show qcF _ _ n _ _ _ _ _=_;unfold qcF;have hlt:i < t.length:=by omega
  have h64:0 < 64 ^ d:=Nat.pow_pos (by decide);have hb':b*64*64 ^ d≤67108864:=by rw[Nat.pow_succ] at hb;rwa[Nat.mul_assoc,Nat.mul_comm 64]
  have hb2:b*64≤b*64*64 ^ d:=Nat.le_mul_of_pos_right _ h64;have hy:=low6 (t.getD i 0);simp (disch:=omega) only [dT,yc,yi,tn];have e1:wrap .i32 ((c:Int)*2 ^ (min (toNat (6:Int)) (IntKind.bits .i32)))=((c*64:Nat):Int):=by
   show wrap .i32 ((c:Int)*64)=_;rw[IntWalk.i32_in _ (by omega)];omega
  rw[e1,IntWalk.i32_in _ (by omega),qMm _ _ hy (by omega),qj (by omega),qkD m t n5 hl d (i+1) n (b*64) _ (by omega) (by omega) (by omega) hb',qaS hlt];show _=qcT (foldS (t.drop (i+1)) ((c:Int)*64+(((t.getD i 0) &&& 63).toNat:Int))) n5 0;congr 2
theorem qAX:∀ i:Fin 256,∀ n:Fin 5,((ofNat i.val) &&& ~~~ (z185 ((n.val:Nat):Int)))=((ofNat i.val) &&& (255 ^^^ (z185 ((n.val:Nat):Int)))):=by decide +kernel
theorem qRF (x:UInt8) (n:Nat) (hn:n < 5):(x &&& ~~~ (z185 ((n:Nat):Int)))=(x &&& (255 ^^^ (z185 ((n:Nat):Int)))):=qcn (P:=fun x=>∀ n:Fin 5,(x &&& ~~~ (z185 ((n.val:Nat):Int)))=(x &&& (255 ^^^ (z185 ((n.val:Nat):Int))))) qAX x ⟨n,hn⟩
theorem qAY (x:UInt8) (r:LU):farN (x :: r)≤qh x∧farN (x :: r)≤r.length+1:=by
 show (bif qh x==0 then 0 else 1+runB x (qh x - 1) true r)≤_∧(bif qh x==0 then 0 else 1+runB x (qh x - 1) true r)≤_;have:=qIO x (qh x - 1) true r;cases h:qh x==0 with
 | true=>exact⟨Nat.zero_le _,Nat.zero_le _⟩
 | false =>
  rw[yB] at h;simp only[yd];omega
theorem qGv:∀ (s0:LU),(qrN s0=true)→∃ n,qsQ n s0=qcT (z178 s0).1 (z178 s0).2.1 (z178 s0).2.2:=fun s h=>⟨s.length+5,by
 have hl:=qd h;match s with
 | []=>rfl
 | x :: r =>
  simp only[yg] at hl;have hf:=qAY x r;have h4:=qic x;obtain⟨N,hN⟩:∃ N,farN (x :: r)=N:=⟨_,rfl⟩;have eT:z178 (x :: r)=bif farN (x :: r)==0 then ((0:Int),((1:Int),(3:Int))) else bif decide (farN (x :: r) < qh x)&&(farN (x :: r)==(x :: r).length) then (0,(farN (x :: r):Nat),4)
   else bif decide (farN (x :: r) < qh x) then (0,(farN (x :: r):Nat),3) else (signN (farN (x :: r)) (x :: r),(farN (x :: r):Nat),0):=rfl
  have eF:z217 (x :: r)=(N:Int):=by rw[← hN];rfl
  have eS:z218 (getD (x :: r) (toNat 0) 0)=((qh x:Nat):Int):=rfl;have hok:qki (x :: r)=true:=by
   unfold qki;rw[qn (show (x :: r).length≤1048576 by simp only[yg];omega)];rfl
  have h0:decide ((0:Int) < (((x :: r).length:Nat):Int))=true:=dT (by simp only[yg];omega);have h00:((((x :: r).length:Nat):Int)==0)=false:=by rw[yB];simp only[yg];omega
  rw[eT,hN];rw[hN] at hf;unfold qsQ qfI qfH qdD qcG qca;rw[eF,eS,hok,h0,h00];simp only[yi,yc,yd,show decide ((0:Int)≤0)=true from rfl]
  by_cases hz:N=0
  ·subst hz;rfl
  ·rw[show (((N:Nat):Int)==0)=false by rw[yB];omega,show (N==0)=false by simpa using hz];simp only[yd]
   by_cases hs:N < qh x
   ·rw[dT (show ((N:Nat):Int) < ((qh x:Nat):Int) by omega),yo hs];simp only[yc,y6]
    by_cases hlN:N=(x :: r).length
    ·rw[show (((N:Nat):Int)==(((x :: r).length:Nat):Int))=true by rw[beq_iff_eq];omega,show (N==(x :: r).length)=true by simpa using hlN];rfl
    ·rw[show (((N:Nat):Int)==(((x :: r).length:Nat):Int))=false by rw[yB];omega,show (N==(x :: r).length)=false by simpa using hlN];rfl
   ·rw[dF (show ¬ ((N:Nat):Int) < ((qh x:Nat):Int) by omega),yx hs];simp only[yd,Bool.false_and];rw[dT (show (1:Int)≤((N:Nat):Int) by omega),dT (show ((N:Nat):Int)≤(((x :: r).length:Nat):Int) by simp only[yg];omega)];simp only[show decide ((0:Int)≤1)=true from rfl,yi,yc,tn];have e1:drop (toNat 1) (take N (x :: r))=r.take (N - 1):=by
     obtain⟨k,rfl⟩:∃ k,N=k+1:=⟨N - 1,by omega⟩;rfl
    have e2:getD (x :: r) (toNat 0) 0=x:=rfl;rw[e1,e2,qRF x N (by omega)];have hx:=(x &&& (255 ^^^ z185 ((N:Nat):Int))).toNat_lt;have ht:(r.take (N - 1)).length=N - 1:=by rw[yz];omega
    rw[IntWalk.i32_in _ (by omega)];have:=qkD ((x :: r).length+5) (r.take (N - 1)) (N:Int) (by omega) (r.take (N - 1)).length 0 ((x :: r).length+5) 256 _ (by omega) (by simp only[yg];omega) hx (by
     rw[ht];have:N - 1=0∨N - 1=1∨N - 1=2∨N - 1=3:=by omega
     rcases this with e | e | e | e <;> rw[e] <;> decide)
    rw[yw] at this;exact this⟩
theorem qIP (x:UInt8) (r:LU):(z178 (x :: r)).2.1=((z178 (x :: r)).2.1.toNat:Int)∧(z178 (x :: r)).2.1.toNat≤r.length+1:=by
 have hf:=qAY x r;show ((bif farN (x :: r)==0 then ((0:Int),((1:Int),(3:Int))) else bif decide (farN (x :: r) < qh x)&&(farN (x :: r)==(x :: r).length) then (0,(farN (x :: r):Nat),4)
  else bif decide (farN (x :: r) < qh x) then (0,(farN (x :: r):Nat),3) else (signN (farN (x :: r)) (x :: r),(farN (x :: r):Nat),0)).2.1=(((bif farN (x :: r)==0 then ((0:Int),((1:Int),(3:Int))) else bif decide (farN (x :: r) < qh x)&&(farN (x :: r)==(x :: r).length) then (0,(farN (x :: r):Nat),4)
  else bif decide (farN (x :: r) < qh x) then (0,(farN (x :: r):Nat),3) else (signN (farN (x :: r)) (x :: r),(farN (x :: r):Nat),0)).2.1.toNat:Nat):Int))∧(bif farN (x :: r)==0 then ((0:Int),((1:Int),(3:Int))) else bif decide (farN (x :: r) < qh x)&&(farN (x :: r)==(x :: r).length) then (0,(farN (x :: r):Nat),4)
  else bif decide (farN (x :: r) < qh x) then (0,(farN (x :: r):Nat),3) else (signN (farN (x :: r)) (x :: r),(farN (x :: r):Nat),0)).2.1.toNat≤r.length+1
 cases farN (x :: r)==0
 ·cases decide (farN (x :: r) < qh x)&&(farN (x :: r)==(x :: r).length)
  ·cases decide (farN (x :: r) < qh x)
   ·exact⟨rfl,hf.2⟩
   ·exact⟨rfl,hf.2⟩
  ·exact⟨rfl,hf.2⟩
 ·exact⟨rfl,by show 1≤_;omega⟩
theorem qAZ (m:Nat):∀ (n k:Nat) (s:LU) (t:LI),s.length < n→s.length < k→s.length≤1048576→t.length+s.length≤2097152 →
 qcb (qcV m) n s t=qbf (t++utfR k s)
 | 0,k,s,t,hn,_,_,_=>by omega
 | n+1,0,s,t,_,hk,_,_=>by omega
 | n+1,k+1,[],t,_,_,_,_=>by
  show qbf t=qbf (t++[]);rw[yG]
 | n+1,k+1,x :: r,t,hn,hk,hl,ht=>by
  show qcU _ (qcb (qcV m) n) n _ _=_;unfold qcU;simp only[yg] at hn hk hl ht;obtain⟨e1,e2⟩:=qIP x r;have e3:=qpj x r;rw[dT (show (0:Int) < (((x :: r).length:Nat):Int) by simp only[yg];omega),show qrN (x :: r)=true from qn (by simp only[yg];omega),
   show qrU (z178 (x :: r)).1 (z178 (x :: r)).2.2 t=true from yo (by omega)]
  generalize hw:(z178 (x :: r)).2.1.toNat=w at e1 e2 e3;rw[e1,dT (show (0:Int)≤(w:Int) by omega),dT (show (w:Int)≤(((x :: r).length:Nat):Int) by simp only[yg];omega),dT (Int.le_refl _)];simp only[yc,yi,tn,List.take_length];have hd:((x :: r).drop w).length≤r.length:=by rw[yK,yg];omega
  have hd2:((x :: r).drop w).length+1≤r.length+1:=by omega
  rw[qAZ m n k ((x :: r).drop w) (z118 (z178 (x :: r)).1 (z178 (x :: r)).2.2 t) (by omega) (by omega) (by omega) (by unfold z118;rw[yn];show t.length+1+_≤_;omega)];show qbf _=qbf (t++((bif (z178 (x :: r)).2.2 != 0 then 65533 else (z178 (x :: r)).1) :: utfR k ((x :: r).drop (z178 (x :: r)).2.1.toNat)));rw[hw];unfold z118;rw[yl];rfl
theorem qra:∀ (s0:LU) (f1:LI),(qcB s0 f1=true)→∃ n,qjl n s0 f1=qbf (qwC s0 f1):=fun s t h=>⟨s.length+1,by
 unfold qcB at h;rw[yf,ym] at h;have hl:=qd h.1;exact qAZ (s.length+1) (s.length+1) (s.length+1) s t (by omega) (by omega) hl (by omega)⟩
theorem qmh (p:UInt8→Bool) (s:LU):dropR p (s.dropWhile p)=qiN p s:=by
 unfold qiN;induction s with
 | nil=>rfl
 | cons c s ih =>
  rw[List.dropWhile_cons];cases hc:p c with
  | true =>
   rw[if_pos rfl,ih];rcases List.eq_nil_or_concat (dropR p s) with h0 | ⟨t,x,h0⟩
   ·have:dropR p (c :: s)=[]:=by
     unfold dropR at h0 ⊢;rw[List.reverse_cons,List.dropWhile_append];have h1:s.reverse.dropWhile p=[]:=by simpa using h0
     rw[h1];simp[hc]
    rw[h0,this]
   ·have:dropR p (c :: s)=c :: dropR p s:=by
     unfold dropR at h0 ⊢;rw[List.reverse_cons,List.dropWhile_append];have h1:(s.reverse.dropWhile p).isEmpty=false:=by
      cases hh:s.reverse.dropWhile p with
      | nil=>rw[hh] at h0;simp at h0
      | cons a b=>rfl
     rw[h1];simp
    rw[this,List.dropWhile_cons,hc];rfl
  | false =>
   simp only[yq,if_false];have:dropR p (c :: s)=c :: dropR p s∨dropR p (c :: s)=[c]∧dropR p s=[]:=by
    unfold dropR;rw[List.reverse_cons,List.dropWhile_append];cases hh:s.reverse.dropWhile p with
    | nil=>right;simp[hc]
    | cons a b=>left;simp
   rcases this with h | ⟨h,_⟩
   ·rw[h,List.dropWhile_cons,hc];rfl
   ·rw[h,List.dropWhile_cons,hc];rfl
theorem qBa:∀ i:Fin 256,z230 (ofNat i.val)=z202 (ofNat i.val):=by decide +kernel
theorem qRG (c:UInt8):z202 c=z230 c:=(qvb (P:=fun c=>z230 c=z202 c) qBa c).symm
theorem qGw:∀ a b:Fin 16,ofNat (toNat (wrap .u8 (wrap .i64 ((wrap .i64 ((16:Int)*((a.val:Nat):Int)))+((b.val:Nat):Int)))))=ofNat (toNat (((a.val:Nat):Int)*16+((b.val:Nat):Int))):=by decide +kernel
theorem and63 (n:Int):bits .and .i64 n 63=n % 64:=by
 have h:(BitVec.ofInt 64 n &&& BitVec.ofInt 64 63).toNat=(n % 64).toNat:=by
  rw[BitVec.toNat_and];have h1:(BitVec.ofInt 64 63).toNat=2 ^ 6 - 1:=by decide
  rw[h1,Nat.and_two_pow_sub_one_eq_mod,BitVec.toNat_ofInt];omega
 show wrap .i64 (((BitVec.ofInt 64 n &&& BitVec.ofInt 64 63).toNat:Nat):Int)=_;rw[h,IntWalk.i64_in _ (by omega)];omega
theorem qRH (a b k:Nat) (hb:b < 2 ^ k) (h:a*2 ^ k+b < 9223372036854775808):bits .or .i64 ((a*2 ^ k:Nat):Int) (b:Int)=((a*2 ^ k+b:Nat):Int):=by
 have h1:(BitVec.ofInt 64 ((a*2 ^ k:Nat):Int)).toNat=a*2 ^ k:=by rw[BitVec.toNat_ofInt];omega
 have h2:(BitVec.ofInt 64 ((b:Nat):Int)).toNat=b:=by rw[BitVec.toNat_ofInt];omega
 have h3:(BitVec.ofInt 64 ((a*2 ^ k:Nat):Int) ||| BitVec.ofInt 64 (b:Int)).toNat=a*2 ^ k+b:=by
  rw[BitVec.toNat_or,h1,h2];have:=Nat.shiftLeft_add_eq_or_of_lt hb a;rw[Nat.shiftLeft_eq] at this;exact this.symm
 show wrap .i64 (((BitVec.ofInt 64 ((a*2 ^ k:Nat):Int) ||| BitVec.ofInt 64 (b:Int)).toNat:Nat):Int)=_;rw[h3,IntWalk.i64_in _ (by omega)]
theorem qkE (n k:Nat) (hn:n < 9223372036854775808) (hk:2 ^ k≤4611686018427387904):bits .and .i64 (n:Int) ((2 ^ k - 1:Nat):Int)=((n % 2 ^ k:Nat):Int):=by
 have hpos:0 < 2 ^ k:=Nat.pow_pos (by decide);have h1:(BitVec.ofInt 64 (n:Int)).toNat=n:=by rw[BitVec.toNat_ofInt];omega
 have h2:(BitVec.ofInt 64 ((2 ^ k - 1:Nat):Int)).toNat=2 ^ k - 1:=by rw[BitVec.toNat_ofInt];omega
 have h3:(BitVec.ofInt 64 (n:Int) &&& BitVec.ofInt 64 ((2 ^ k - 1:Nat):Int)).toNat=n % 2 ^ k:=by
  rw[BitVec.toNat_and,h1,h2,Nat.and_two_pow_sub_one_eq_mod]
 have h4:n % 2 ^ k < 2 ^ k:=Nat.mod_lt _ hpos;show wrap .i64 (((BitVec.ofInt 64 (n:Int) &&& BitVec.ofInt 64 ((2 ^ k - 1:Nat):Int)).toNat:Nat):Int)=_;rw[h3,IntWalk.i64_in _ (by omega)]
theorem fdivN (n k:Nat):Int.fdiv (n:Int) ((k:Nat):Int)=((n / k:Nat):Int):=by
 rw[Int.fdiv_eq_ediv_of_nonneg _ (Int.natCast_nonneg k),Int.natCast_ediv]
theorem held8 (h x:Nat) (hh:h < 16) (hx:x < 256):bits .or .i64 (wrap .i64 ((h:Int)*2 ^ (min (toNat (8:Int)) (IntKind.bits .i64)))) (wrap .i64 (x:Int))=((h*256+x:Nat):Int):=by
 have e:wrap .i64 ((h:Int)*2 ^ (min (toNat (8:Int)) (IntKind.bits .i64)))=((h*2 ^ 8:Nat):Int):=by
  show wrap .i64 ((h:Int)*256)=_;rw[IntWalk.i64_in _ (by omega)];omega
 rw[e,IntWalk.i64_in _ (by omega),qRH h x 8 (by omega) (by omega)]
theorem qMn (m h x:Nat):(encD m h x).length≤2:=by
 unfold encD;cases m==4
 ·exact Nat.le_succ 1
 ·exact yv 2
theorem qGx:∀ i:Fin 256,(decide (0≤(z175 (ofNat i.val)).1)&&decide ((z175 (ofNat i.val)).1 < 64))=true:=by decide +kernel
theorem qBb (c:UInt8):∃ n:Nat,(z175 c).1=(n:Int)∧n < 64:=by
 have h:=qcn (P:=fun c=>(decide (0≤(z175 c).1)&&decide ((z175 c).1 < 64))=true) qGx c;simp only[yf,ym] at h;exact⟨(z175 c).1.toNat,by omega,by omega⟩
theorem qtr (h:i < s.length):s.take i++[s.getD i 0]=s.take (i+1):=by
 rw[List.take_succ_eq_append_getElem h,yY,yO h];rfl
theorem qBc (s:LU):(bodyB s).length≤s.length:=by
 unfold bodyB;cases s.getLast? == some 61
 ·simp only[yd];cases (s.getLast? == some 61&&s.length != s.length)
  ·exact yv _
  ·rw[yc,List.length_dropLast];omega
 ·simp only[yc];cases (s.dropLast.getLast? == some 61&&s.dropLast.length != s.length)
  ·rw[yd,List.length_dropLast];omega
  ·rw[yc,List.length_dropLast,List.length_dropLast];omega
theorem tmod4 (n:Nat):((tmod (n:Int) 4) != (0:Int))=(n % 4 != 0):=by
 have:tmod (n:Int) 4=((n % 4:Nat):Int):=rfl;rw[this];cases h:n % 4 != 0 with
 | true =>
  rw[bne_iff_ne] at h ⊢;omega
 | false =>
  rw[bne_eq_false_iff_eq] at h ⊢;omega
theorem qMo:∀ i:Fin 256,z144 (ofNat i.val) 2=blank (ofNat i.val):=by decide +kernel
theorem qMp (c:UInt8):z144 c 2=blank c:=qLQ (P:=fun c=>z144 c 2=blank c) qMo c
theorem qaw (p:UInt8→Bool):∀ s:LU,s.drop (s.length - (s.dropWhile p).length)=s.dropWhile p
 | []=>rfl
 | c :: s=>by
  rw[List.dropWhile_cons];cases p c with
  | true =>
   have:=qbr p s;simp only[if_true,yg];rw[show s.length+1 - (s.dropWhile p).length=s.length - (s.dropWhile p).length+1 by omega,List.drop_succ_cons];exact qaw p s
  | false=>simp
theorem qGy (p:UInt8→Bool) (s:LU):s.take (dropR p s).length=dropR p s:=by
 have h:=qaw p s.reverse;unfold dropR;have hle:=qbr p s.reverse;rw[List.length_reverse] at hle;conv=>rhs;rw[← h]
 rw[List.length_reverse,List.length_reverse,List.reverse_drop,List.reverse_reverse,List.length_reverse];congr 1;omega
theorem qts (c:UInt8) (r:LU):digB (c :: r)=bif c==61 then [] else bif isB64 c then c :: digB r else digB r:=by
 unfold digB;rw[List.takeWhile_cons];cases h:c==61 with
 | true =>
  have:(c != 61)=false:=by rw[bne,h];rfl
  rw[this];rfl
 | false =>
  have:(c != 61)=true:=by rw[bne,h];rfl
  rw[this,if_pos rfl,yd,List.filter_cons];cases isB64 c <;> rfl
theorem qvd:∀ i:Fin 256,(!(z237 (ofNat i.val))||decide ((ofNat i.val).toNat=((ofNat i.val) &&& (63:UInt8)).toNat+128))=true:=by decide +kernel
theorem low6f {y:UInt8} (h:z237 y=true):y.toNat=(y &&& 63).toNat+128:=by
 have k:=qcn (P:=fun y=>(!(z237 y)||decide (y.toNat=(y &&& (63:UInt8)).toNat+128))=true) qvd y;rw[h,Bool.not_true,Bool.false_or,ym] at k;exact k
theorem qBd:∀ i:Fin 256,((bif decide ((ofNat i.val) < (128:UInt8)) then (1:Int) else bif decide ((194:UInt8)≤(ofNat i.val))&&decide ((ofNat i.val)≤(223:UInt8)) then 2 else bif decide ((224:UInt8)≤(ofNat i.val))&&decide ((ofNat i.val)≤(239:UInt8)) then 3
 else bif decide ((240:UInt8)≤(ofNat i.val))&&decide ((ofNat i.val)≤(244:UInt8)) then 4 else 0)==z218 (ofNat i.val))=true:=by decide +kernel
def inR (a b y:UInt8):Bool := !(decide (y < a)) && !(decide (b < y))
theorem qjX:∀ i:Fin 256,inR 128 191 (ofNat i.val)=z237 (ofNat i.val):=by decide +kernel
theorem qtt (y:UInt8):inR 128 191 y=z237 y:=qcn (P:=fun y=>inR 128 191 y=z237 y) qjX y
theorem in_a:∀ i:Fin 256,inR 160 191 (ofNat i.val)=(z237 (ofNat i.val)&&(decide ((160:UInt8)≤(ofNat i.val))&&z237 (ofNat i.val))):=by decide +kernel
theorem in_b:∀ i:Fin 256,inR 128 159 (ofNat i.val)=(z237 (ofNat i.val)&&(decide ((ofNat i.val) < (160:UInt8))&&z237 (ofNat i.val))):=by decide +kernel
theorem in_c:∀ i:Fin 256,inR 144 191 (ofNat i.val)=(z237 (ofNat i.val)&&(decide ((144:UInt8)≤(ofNat i.val))&&z237 (ofNat i.val))):=by decide +kernel
theorem in_d:∀ i:Fin 256,inR 128 143 (ofNat i.val)=(z237 (ofNat i.val)&&(decide ((ofNat i.val) < (144:UInt8))&&z237 (ofNat i.val))):=by decide +kernel
theorem qGz (x y:UInt8):inR (z232 x).1 (z232 x).2 y=(z237 y&&z238 x y):=by
 unfold z232 z238;cases (x==(224:UInt8))
 ·cases (x==(237:UInt8))
  ·cases (x==(240:UInt8))
   ·cases (x==(244:UInt8))
    ·show inR 128 191 y=_;rw[qtt];cases z237 y <;> rfl
    ·exact qcn (P:=fun y=>inR 128 143 y=(z237 y&&(decide (y < (144:UInt8))&&z237 y))) in_d y
   ·exact qcn (P:=fun y=>inR 144 191 y=(z237 y&&(decide ((144:UInt8)≤y)&&z237 y))) in_c y
  ·exact qcn (P:=fun y=>inR 128 159 y=(z237 y&&(decide (y < (160:UInt8))&&z237 y))) in_b y
 ·exact qcn (P:=fun y=>inR 160 191 y=(z237 y&&(decide ((160:UInt8)≤y)&&z237 y))) in_a y
theorem qtu {α:Type} (a b y:UInt8) (p q:α):(bif decide (y < a) then p else bif decide (b < y) then p else q)=bif inR a b y then q else p:=by
 unfold inR;cases decide (y < a) <;> cases decide (b < y) <;> rfl
theorem qBe:∀ (f:UInt8) (n:Nat) (one:Bool) (s:LU),runB f n one s=n→(s.take n).all z237=true
 | f,0,one,s,_=>by cases s <;> rfl
 | f,n+1,one,[],h=>by cases h
 | f,n+1,one,x :: r,h=>by
  have h':(bif z237 x&&(!one||z238 f x) then runB f n false r+1 else 0)=n+1:=h;cases hc:z237 x&&(!one||z238 f x) with
  | false=>rw[hc] at h';cases h'
  | true =>
   rw[hc,yc] at h';rw[yf] at hc;rw[List.take_succ_cons,List.all_cons,hc.1,qBe f n false r (by omega)];rfl
theorem qve:∀ i:Fin 256,(qh (ofNat i.val)==0||(((ofNat i.val).toNat:Int) - getD ([(0:Int),(0:Int),(192:Int),(224:Int),(240:Int)]:LI) (qh (ofNat i.val)) 0==((((ofNat i.val) &&& (255 ^^^ (z185 ((qh (ofNat i.val):Nat):Int)))).toNat:Nat):Int)))=true:=by decide +kernel
def qjF (cs:Int) (c:UInt8):Int:=bif cs==1 then z114 (c.toNat:Int) else bif cs==3 then z90 c else bif cs==4 then z91 c else (c.toNat:Int)
theorem u127 (c:UInt8):decide ((127:UInt8) < c)=decide ((128:Int)≤(c.toNat:Int)):=by
 by_cases h:(127:UInt8) < c
 ·rw[yo h];rw[UInt8.lt_iff_toNat_lt] at h;exact(yo (by have:(127:UInt8).toNat=127:=rfl;omega)).symm
 ·rw[yx h];rw[UInt8.lt_iff_toNat_lt] at h;exact(yx (by have:(127:UInt8).toNat=127:=rfl;omega)).symm
def valF:Nat→Nat→UInt8→Int×Bool
 | 0,_,_=>(0,false)
 | d+1,n,c=>bif z191 (n:Int)==c then ((n:Int),true) else valF d (n+1) c
theorem qMq:∀ i:Fin 256,(valF 64 0 (ofNat i.val)==z175 (ofNat i.val))=true:=by decide +kernel
theorem qGA:∀ i:Fin 64,([tmod (Int.fdiv (i.val:Int) (2 ^ 5)) 2,tmod (Int.fdiv (i.val:Int) (2 ^ 4)) 2,tmod (Int.fdiv (i.val:Int) (2 ^ 3)) 2,tmod (Int.fdiv (i.val:Int) (2 ^ 2)) 2,tmod (Int.fdiv (i.val:Int) (2 ^ 1)) 2,tmod (Int.fdiv (i.val:Int) (2 ^ 0)) 2]:LI)=qbw (i.val:Int):=by decide +kernel
theorem qGB {e:Nat} (he:e < s.length):(s.take (e+1)).getLast? = some (s.getD e 0)∧(s.take (e+1)).dropLast=s.take e:=by
 rw[← qtr he];exact⟨by simp,by simp⟩
theorem qou (p:UInt8→Bool):∀ s:LU,s.take (s.takeWhile p).length=s.takeWhile p
 | []=>rfl
 | x :: r=>by
  rw[List.takeWhile_cons];cases p x with
  | false=>rfl
  | true=>simp only[if_true,yg,List.take_succ_cons];rw[qou p r]
theorem qcK (b:LU) (n:Int):∀ (l:List LU) (r:List (LU×Int)),qjR b (l.map (fun s=>(s,n))++r)=bif l.any (fun x=>x==b) then some n else qjR b r
 | [],r=>rfl
 | x :: l,r=>by
  show (bif b==x then some n else qjR b (l.map (fun s=>(s,n))++r))=bif (x==b)||l.any (fun x=>x==b) then some n else qjR b r
  rw[qcK b n l r];have hc:(b==x)=(x==b):=by
   cases h:x==b with
   | true=>rw[beq_iff_eq] at h ⊢;exact h.symm
   | false=>rw[yB] at h ⊢;exact fun e=>h e.symm
  rw[hc];cases (x==b) <;> rfl
theorem qGC (n:Int):(z156 n).length≤4:=by
 unfold z156;cases n==1
 ·cases n==2
  ·cases n==3
   ·cases n==4
    ·cases n==5
     ·exact Nat.zero_le _
     ·exact Nat.le_of_ble_eq_true rfl
    ·exact Nat.le_of_ble_eq_true rfl
   ·exact Nat.le_of_ble_eq_true rfl
  ·exact Nat.le_of_ble_eq_true rfl
 ·exact Nat.le_of_ble_eq_true rfl
theorem qtv (ret:Int→Bool→OA) (k0:OA) (hk:k0=ret 0 false) (c:UInt8):∀ (d:Nat) (i:Int) (n:Nat),i+d=16→0≤i→d < n →
 qhp ret k0 n c i=ret (qpl d i c).1 (qpl d i c).2
 | d,i,0,hi,h0,hn=>by omega
 | 0,i,n+1,hi,h0,hn=>by
  show qea ret k0 (qhp ret k0 n) n c i=_;unfold qea;rw[yx (by omega),yd,hk];rfl
 | d+1,i,n+1,hi,h0,hn=>by
  show qea ret k0 (qhp ret k0 n) n c i=_;unfold qea;have hok:qcm i=true:=by unfold qcm;rw[ym];omega
  rw[yo (by omega),yc,hok,IntWalk.i64_in (i+1) (by omega),qtv ret k0 hk c d (i+1) n (by omega) (by omega) (by omega)];show _=ret (bif z189 i==c then (i,true) else bif decide ((10:Int)≤i)&&(z189 i+32==c) then (i,true) else qpl d (i+1) c).1 (bif z189 i==c then (i,true) else bif decide ((10:Int)≤i)&&(z189 i+32==c) then (i,true) else qpl d (i+1) c).2;generalize qpl d (i+1) c=z;cases z189 i==c <;> cases decide ((10:Int)≤i) <;> cases z189 i+32==c <;> rfl
theorem qGD:∀ (c0:UInt8),∃ n,qAu n c0=qje (z202 c0).1 (z202 c0).2:=fun c=>⟨17,qtv qje (qlL 17) rfl c 16 0 17 (by omega) (by omega) (by omega)⟩
theorem qGE:∀ (s0:LU) (at1:Int) (sign2:UInt8),(qiK s0 at1 sign2=true)→∃ n,qIt n s0 at1 sign2=qlE (z149 s0 at1 sign2).1 (z149 s0 at1 sign2).2:=fun s at1 sign h=>⟨0,by
 have hl:=qd h;unfold qIt z149 z145
 by_cases h0:at1 < 0
 ·rw[yo h0,yx (show ¬ 0≤at1 by omega)];rfl
 by_cases h1:wrap .i64 (((length s:Nat):Int) - 3) < at1
 ·have h2:¬ at1≤(s.length:Int) - 3:=by rw[IntWalk.i64_in _ (by omega)] at h1;omega
  rw[yx h0,yo h1,yx h2,Bool.and_false];rfl
 obtain⟨i,rfl,hi⟩:=qkC s at1 hl h0 h1;rw[yx h0,yx h1,yd,yd,qaa,qih,yo (show i < s.length by omega),yi,yc,qan,qj (by omega),
  show wrap .i64 ((i:Int)+2)=((i+2:Nat):Int) by rw[IntWalk.i64_in _ (by omega)];omega,qaa,qaa,qih,qih,yo (show i+1 < s.length by omega),yo hi,qan,qan,
  yo (show (i:Int)≤(s.length:Int) - 3 by omega),yi,yc]
 rw[qRG,qRG];have h:=qAQ (P:=fun x y=>ofNat (toNat (wrap .u8 (wrap .i64 ((wrap .i64 ((16:Int)*x))+y))))=ofNat (toNat (x*16+y))) qGw (qem (getD s (i+1) 0)) (qem (getD s (i+2) 0));rw[h];unfold qjQ z199;cases he:(getD s i 0==sign) with
 | true =>
  rw[show (getD s i 0 != sign)=false by simp only[bne,he,Bool.not_true]];cases (z230 (getD s (i+1) 0)).2 <;> cases (z230 (getD s (i+2) 0)).2 <;> rfl
 | false=>rw[show (getD s i 0 != sign)=true by simp only[bne,he,Bool.not_false]];rfl⟩
theorem qGF:∀ (n0:Int),∃ n,qIv n n0=qlD (z191 n0):=fun n=>⟨0,by
 unfold qIv qby z191;generalize tmod (wrap .i64 (tmod n 64+64)) 64=k;show _=qlD (bif decide (k < 26) then _ else _);cases decide (k < 26) <;> cases decide (k < 52) <;> cases decide (k < 62) <;> cases (k==62) <;> rfl⟩
theorem qkF (k0:Int→OA) (l:LI) (hl:l.length≤1048576):∀ (d i n:Nat) (m:Int),i+d=l.length→d < n →
 qkx k0 n l m (i:Nat)=k0 ((l.drop i).foldl (fun n b=>wrap .i64 (wrap .i64 (2*n)+b)) m)
 | d,i,0,m,hi,hn=>by omega
 | 0,i,n+1,m,hi,hn=>by
  show qee _ _ n _ _ _=_;unfold qee;rw[dF (by omega),yd,yA (by omega)];rfl
 | d+1,i,n+1,m,hi,hn=>by
  show qee _ _ n _ _ _=_;unfold qee;have hlt:i < l.length:=by omega
  rw[qG (d:=(0:Int)) hlt];simp (disch:=omega) only [dT,yc,yi,tn,qj];rw[qkF k0 l hl d (i+1) n _ (by omega) (by omega)];rfl
theorem qGG:∀ (l0:LI),(qfx l0=true)→∃ n,qtc n l0=qHL (z151 l0):=fun l h=>⟨l.length+1,by
 unfold qfx at h;have hl:l.length≤1048576:=by simpa using h
 unfold qtc z151;refine(qkF (qlS (l.length+1)) l hl l.length 0 (l.length+1) 0 (by omega) (by omega)).trans ?_;rw[yw];rfl⟩
theorem qGH:∀ (n0:Int),∃ n,qIn n n0=qlD (z222 n0):=fun n=>⟨0,by
 unfold qIn qjn z222;rw[and63];have h0:(0:Int)≤n % 64:=by omega
 have h1:n % 64 < (((b64D.length:Nat)):Int):=by show n % 64 < ((64:Nat):Int);omega
 rw[yo h0];show (bif true&&decide (n % 64 < (((b64D.length:Nat)):Int)) then _ else _)=_;rw[yo h1];rfl⟩
theorem qRI (k2:LU→Int→Int→LU→Int→Int→OA) (n:Nat) (out:LU) (h:Nat) (s8:LU) (s9 s10:Int) (ho:out.length+1≤room) :
 qdf k2 (n+3) out (h:Int) 8 s8 s9 s10=k2 (out++[z222 ((h / 4:Nat):Int)]) (h:Int) 2 s8 s9 s10:=by
 have e:qdf k2 (n+3) out (h:Int) 8 s8 s9 s10=bif decide (out.length+1≤room) then k2 (out++[z222 (Int.fdiv (h:Int) ((4:Nat):Int))]) (h:Int) 2 s8 s9 s10 else none:=rfl
 rw[e,dT ho,yc,fdivN]
theorem qRJ (k2:LU→Int→Int→LU→Int→Int→OA) (n:Nat) (out:LU) (h:Nat) (s8:LU) (s9 s10:Int) (ho:out.length+1≤room) :
 qdf k2 (n+3) out (h:Int) 10 s8 s9 s10=k2 (out++[z222 ((h / 16:Nat):Int)]) (h:Int) 4 s8 s9 s10:=by
 have e:qdf k2 (n+3) out (h:Int) 10 s8 s9 s10=bif decide (out.length+1≤room) then k2 (out++[z222 (Int.fdiv (h:Int) ((16:Nat):Int))]) (h:Int) 4 s8 s9 s10 else none:=rfl
 rw[e,dT ho,yc,fdivN]
theorem qRK (k2:LU→Int→Int→LU→Int→Int→OA) (n:Nat) (out:LU) (h:Nat) (s8:LU) (s9 s10:Int) (ho:out.length+2≤room) :
 qdf k2 (n+3) out (h:Int) 12 s8 s9 s10=k2 (out++[z222 ((h / 64:Nat):Int),z222 (h:Int)]) (h:Int) 0 s8 s9 s10:=by
 have e:qdf k2 (n+3) out (h:Int) 12 s8 s9 s10=bif decide (out.length+1≤room) then (bif decide ((out++[z222 (Int.fdiv (h:Int) ((64:Nat):Int))]).length+1≤room) then k2 ((out++[z222 (Int.fdiv (h:Int) ((64:Nat):Int))])++[z222 (Int.fdiv (h:Int) ((1:Nat):Int))]) (h:Int) 0 s8 s9 s10 else none) else none:=rfl
 rw[e,dT (show out.length+1≤room by omega),yc,dT (by rw[yn];exact ho),yc,fdivN,fdivN,Nat.div_one,yl];rfl
theorem qGI (k0:LU→Int→Int→OA) (next:LU→Int→Int→LU→Int→Int→OA) (j n:Nat) (out:LU) (h m x:Nat) (s8:LU) (s9 s10:Int)
 (hm:m=0∨m=2∨m=4) (hh:h < 2 ^ m) (hx:x < 256) (ho:out.length+2≤room) :
 qdf (qdX k0 next j) (n+3) out (bits .or .i64 (wrap .i64 ((h:Int)*2 ^ (min (toNat (8:Int)) (IntKind.bits .i64)))) (wrap .i64 (x:Int))) (wrap .i64 ((m:Int)+8)) s8 s9 s10
  = next (out++encD m h x) (encH m h x:Nat) (encM m:Nat) s8 s9 (wrap .i64 (s10+1)):=by
 have hh16:h < 16:=by rcases hm with rfl | rfl | rfl <;> omega
 rw[held8 h x hh16 hx];rcases hm with rfl | rfl | rfl
 ·rw[show wrap .i64 (((0:Nat):Int)+8)=8 from rfl,qRI _ _ _ _ _ _ _ (by omega)];have e:qdX k0 next j (out++[z222 (((h*256+x) / 4:Nat):Int)]) ((h*256+x:Nat):Int) 2 s8 s9 s10=next (out++[z222 (((h*256+x) / 4:Nat):Int)]) (bits .and .i64 ((h*256+x:Nat):Int) ((2 ^ 2 - 1:Nat):Int)) 2 s8 s9 (wrap .i64 (s10+1)):=rfl;rw[e,qkE _ 2 (by omega) (by decide)];have e2:encD 0 h x=[z222 (((h*256+x) / 4:Nat):Int)]:=rfl;have e3:encH 0 h x=(h*256+x) % 2 ^ 2:=rfl;have e4:encM 0=2:=rfl;rw[e2,e3,e4];rfl
 ·rw[show wrap .i64 (((2:Nat):Int)+8)=10 from rfl,qRJ _ _ _ _ _ _ _ (by omega)];have e:qdX k0 next j (out++[z222 (((h*256+x) / 16:Nat):Int)]) ((h*256+x:Nat):Int) 4 s8 s9 s10=next (out++[z222 (((h*256+x) / 16:Nat):Int)]) (bits .and .i64 ((h*256+x:Nat):Int) ((2 ^ 4 - 1:Nat):Int)) 4 s8 s9 (wrap .i64 (s10+1)):=rfl;rw[e,qkE _ 4 (by omega) (by decide)];have e2:encD 2 h x=[z222 (((h*256+x) / 16:Nat):Int)]:=rfl;have e3:encH 2 h x=(h*256+x) % 2 ^ 4:=rfl;have e4:encM 2=4:=rfl;rw[e2,e3,e4];rfl
 ·rw[show wrap .i64 (((4:Nat):Int)+8)=12 from rfl,qRK _ _ _ _ _ _ _ ho];have e0:qdX k0 next j (out++[z222 (((h*256+x) / 64:Nat):Int),z222 ((h*256+x:Nat):Int)]) ((h*256+x:Nat):Int) 0 s8 s9 s10=next (out++[z222 (((h*256+x) / 64:Nat):Int),z222 ((h*256+x:Nat):Int)]) (bits .and .i64 ((h*256+x:Nat):Int) ((2 ^ 0 - 1:Nat):Int)) 0 s8 s9 (wrap .i64 (s10+1)):=rfl;rw[e0,qkE _ 0 (by omega) (by decide)];have e3:encH 4 h x=(h*256+x) % 2 ^ 0:=rfl;have e4:encM 4=0:=rfl;have e:encD 4 h x=[z222 (((h*256+x) / 64:Nat):Int),z222 ((h*256+x:Nat):Int)]:=by
   show [z222 (((h*256+x:Nat):Int) / 64),_]=_;rw[Int.natCast_ediv];rfl
  rw[e,e3,e4];rfl
theorem qMr (m:Nat) (s out:LU) (mm h:Nat) (e:EncSt s out mm h) (ho:out.length+1≤room):qfJ m out (h:Int) (mm:Int)=qjo (z138 s):=by
 have hc:=e.cases;have hl:=e.lt;unfold qfJ;rcases hc with rfl | rfl | rfl
 ·rw[dF (by omega),yd,e.bare_nil]
 ·rw[e.bare_some (by decide),dT (by omega),yc];have e1:wrap .i64 ((h:Int)*2 ^ (min (toNat (wrap .i64 ((6:Int) - ((2:Nat):Int)))) (IntKind.bits .i64)))=((h*2 ^ (6 - 2):Nat):Int):=by
   show wrap .i64 ((h:Int)*16)=_;rw[IntWalk.i64_in _ (by omega)];omega
  rw[e1,dT (show (0:Int)≤wrap .i64 ((6:Int) - ((2:Nat):Int)) from by decide),yc,dT (show out.length+[_].length≤room from ho),yc]
 ·rw[e.bare_some (by decide),dT (by omega),yc];have e1:wrap .i64 ((h:Int)*2 ^ (min (toNat (wrap .i64 ((6:Int) - ((4:Nat):Int)))) (IntKind.bits .i64)))=((h*2 ^ (6 - 4):Nat):Int):=by
   show wrap .i64 ((h:Int)*4)=_;rw[IntWalk.i64_in _ (by omega)];omega
  rw[e1,dT (show (0:Int)≤wrap .i64 ((6:Int) - ((4:Nat):Int)) from by decide),yc,dT (show out.length+[_].length≤room from ho),yc]
theorem qov (j:Nat) (s:LU) (hl:s.length≤1048576):∀ (d i n:Nat) (out:LU) (h m:Nat),i+d=s.length→d+3 < n→EncSt (s.take i) out m h→out.length≤2*i →
 qkt (qfJ j) n out (h:Int) (m:Int) s (s.length:Nat) (i:Nat)=qjo (z138 s)
 | d,i,0,out,h,m,hi,hn,_,_=>by omega
 | 0,i,n+1,out,h,m,hi,hn,e,ho=>by
  obtain rfl:i=s.length:=by omega
  show qcW _ _ n _ _ _ _ _ _=_;unfold qcW;rw[dF (by omega),yd];rw[List.take_length] at e;exact qMr j s out m h e (by unfold room;omega)
 | d+1,i,n+1,out,h,m,hi,hn,e,ho=>by
  show qcW _ _ n _ _ _ _ _ _=_;unfold qcW;have hlt:i < s.length:=by omega
  have hx:=(s.getD i 0).toNat_lt;simp (disch:=omega) only [dT,yc,yi,tn];obtain⟨n',rfl⟩:∃ n',n=n'+3:=⟨n - 3,by omega⟩;rw[qGI _ _ _ n' out h m _ s _ _ e.cases e.lt hx (by unfold room;omega),qj (by omega)];have e2:=e.step (s.getD i 0);have ht:s.take i++[s.getD i 0]=s.take (i+1):=by
   rw[List.take_succ_eq_append_getElem hlt,yY,yO hlt];rfl
  rw[ht] at e2;have hd:=qMn m h (s.getD i 0).toNat;exact qov j s hl d (i+1) (n'+3) _ _ _ (by omega) (by omega) e2 (by rw[yn];omega)
theorem qGJ:∀ (s0:LU),(qHA s0=true)→∃ n,qsW n s0=qjo (z182 s0):=fun s h=>⟨s.length+5,by
 have hl:=qd h;unfold qsW;exact qov (s.length+5) s hl s.length 0 (s.length+5) [] 0 0 (by omega) (by omega) EncSt.nil (by simp)⟩
theorem qRL (k2:LU→Int→Int→OA) (s:LU) (hl:s.length≤1048576) (a:Nat):∀ (d b n:Nat),a+d=b→b≤s.length→d < n →
 qoi k2 n s (a:Nat) (b:Nat)=k2 s (a:Nat) ((a+(dropR blank ((s.take b).drop a)).length:Nat):Int)
 | d,b,0,hb,hbl,hn=>by omega
 | 0,b,n+1,hb,hbl,hn=>by
  show qgO k2 (qoi k2 n) n _ _ _=_;unfold qgO;have hz:(s.take b).drop a=[]:=yA (by simp;omega);rw[dF (by omega),yd,hz];congr 1;simp[dropR];omega
 | d+1,b,n+1,hb,hbl,hn=>by
  show qgO k2 (qoi k2 n) n _ _ _=_;unfold qgO;have hlt:a < b:=by omega
  have ih:=qRL k2 s hl a d (b - 1) n (by omega) (by omega) (by omega);have hsn:(s.take b).drop a=(s.take (b - 1)).drop a++[s.getD (b - 1) 0]:=by
   have h1:s.take b=s.take (b - 1)++[s.getD (b - 1) 0]:=by
    conv=>lhs;rw[show b=b - 1+1 by omega]
    rw[List.take_add_one];simp[getD,show b - 1 < s.length by omega]
   rw[h1,List.drop_append_of_le_length (by simp;omega)]
  have hc:((b:Nat):Int) - 1=((b - 1:Nat):Int):=by omega
  simp (disch:=omega) only [dT,yc,yi,wr,hc,tn,hsn,qjA];rw[show z136 (s.getD (b - 1) 0) 2=blank (s.getD (b - 1) 0) from qMp _];cases blank (s.getD (b - 1) 0) with
  | true=>exact ih
  | false =>
   rw[yd,yd];congr 1;simp;omega
theorem qRM (k0:LU→Int→Int→OA) (s:LU) (hl:s.length≤1048576):∀ (d a n:Nat),a+d=s.length→d < n →
 qoh k0 n s (a:Nat) (s.length:Nat)=k0 s ((s.length - ((s.drop a).dropWhile blank).length:Nat):Int) (s.length:Nat)
 | d,a,0,hb,hn=>by omega
 | 0,a,n+1,hb,hn=>by
  show qgN k0 (qoh k0 n) n _ _ _=_;unfold qgN;rw[dF (by omega),yd,yA (by omega)];congr 1;simp;omega
 | d+1,a,n+1,hb,hn=>by
  show qgN k0 (qoh k0 n) n _ _ _=_;unfold qgN;have hlt:a < s.length:=by omega
  have ih:=qRM k0 s hl d (a+1) n (by omega) (by omega);rw[qG (d:=(0:UInt8)) hlt,List.dropWhile_cons];simp (disch:=omega) only [dT,yc,yi,qj,tn];rw[show z136 (s.getD a 0) 2=blank (s.getD a 0) from qMp _];cases hbk:blank (s.getD a 0) with
  | true=>rw[yc,ih];rfl
  | false =>
   rw[yd];congr 1;simp;omega
theorem qMs:∀ (s0:LU),(qun s0=true)→∃ n,qFC n s0=qzR (z98 s0):=fun s h=>⟨s.length+1,by
 have hl:=qd h;unfold qFC;refine(qRM (qeT (s.length+1)) s hl s.length 0 (s.length+1) (by omega) (by omega)).trans ?_;rw[yw];have hle:=qbr blank s;unfold qeT;refine(qRL (qmc (s.length+1)) s hl (s.length - (s.dropWhile blank).length) (s.dropWhile blank).length s.length (s.length+1) (by omega) (by omega) (by omega)).trans ?_;rw[List.take_length,qaw,qmh];have hle2:=qqW blank (s.dropWhile blank);rw[qmh] at hle2;unfold qmc;simp (disch:=omega) only [dT,yc,yi,tn];have e:drop (s.length - (s.dropWhile blank).length) (take (s.length - (s.dropWhile blank).length+(qiN blank s).length) s)=qiN blank s:=by
  rw[List.drop_take,show s.length - (s.dropWhile blank).length+(qiN blank s).length - (s.length - (s.dropWhile blank).length)=(qiN blank s).length by omega,qaw];rw[← qmh];exact qGy blank _
 rw[e];rfl⟩
theorem qGK:∀ (c0:UInt8),∃ n,qIx n c0=qHL (z204 c0):=fun c=>⟨0,by
 have h:=qcn (P:=fun c=>((bif decide (c < (128:UInt8)) then (1:Int) else bif decide ((194:UInt8)≤c)&&decide (c≤(223:UInt8)) then 2 else bif decide ((224:UInt8)≤c)&&decide (c≤(239:UInt8)) then 3
  else bif decide ((240:UInt8)≤c)&&decide (c≤(244:UInt8)) then 4 else 0)==z218 c)=true) qBd c
 rw[beq_iff_eq] at h;unfold qIx z204;rw[← h];cases decide (c < (128:UInt8)) <;> cases decide ((194:UInt8)≤c) <;> cases decide (c≤(223:UInt8)) <;> cases decide ((224:UInt8)≤c) <;> cases decide (c≤(239:UInt8)) <;> cases decide ((240:UInt8)≤c) <;> cases decide (c≤(244:UInt8)) <;> rfl⟩
theorem qGL:∀ (c0:UInt8),∃ n,qIy n c0=qgJ (z232 c0).1 (z232 c0).2:=fun c=>⟨0,by
 unfold qIy z232;cases (c==(224:UInt8)) <;> cases (c==(237:UInt8)) <;> cases (c==(240:UInt8)) <;> cases (c==(244:UInt8)) <;> rfl⟩
theorem qtw (m:Nat) (x:UInt8) (r:LU) (hl:r.length≤1048576):∀ (d i n:Nat),qh x=i+d→1≤i→i≤r.length+1→d < n →
 qju qHL (qhX m) n (x :: r) (i:Nat)=qHL ((i+runB x d (i==1) (r.drop (i - 1)):Nat):Int)
 | d,i,0,_,_,_,hn=>by omega
 | 0,i,n+1,hs,hi,hr,hn=>by
  show qef _ _ _ n _ _=_;unfold qef qbl;have e0:z204 (getD (x :: r) (toNat 0) 0)=((qh x:Nat):Int):=rfl;have h0:decide ((0:Int) < (((x :: r).length:Nat):Int))=true:=dT (by simp only[yg];omega);rw[e0,h0,dF (show ¬ ((i:Nat):Int) < ((qh x:Nat):Int) by omega)];have hr0:runB x 0 (i==1) (r.drop (i - 1))=0:=by cases r.drop (i - 1) <;> rfl
  rw[hr0];rfl
 | d+1,i,n+1,hs,hi,hr,hn=>by
  show qef _ _ _ n _ _=_;unfold qef qbl;have e0:z204 (getD (x :: r) (toNat 0) 0)=((qh x:Nat):Int):=rfl;have h0:decide ((0:Int) < (((x :: r).length:Nat):Int))=true:=dT (by simp only[yg];omega);rw[e0,h0,dT (show ((i:Nat):Int) < ((qh x:Nat):Int) by omega)];simp only[yc,yi,show decide ((0:Int)≤0)=true from rfl]
  by_cases hlt:i < (x :: r).length
  ·have hlt':i - 1 < r.length:=by simp only[yg] at hlt;omega
   obtain⟨y,hy⟩:∃ y,r.getD (i - 1) 0=y:=⟨_,rfl⟩;have hg:(x :: r).getD i 0=y:=by
    obtain⟨k,rfl⟩:∃ k,i=k+1:=⟨i - 1,by omega⟩;exact hy
   have hdr:r.drop (i - 1)=y :: r.drop i:=by
    have:=qaS hlt';rw[this,hy,show i - 1+1=i by omega]
   have e2:getD (x :: r) (toNat 0) 0=x:=rfl;rw[dT (show ((i:Nat):Int) < (((x :: r).length:Nat):Int) by omega),dT (show (0:Int)≤((i:Nat):Int) by omega),tn,hg,hdr,e2];simp only[yc,yi];have hrun:runB x (d+1) (i==1) (y :: r.drop i)=bif z237 y&&(!(i==1)||z238 x y) then runB x d false (r.drop i)+1 else 0:=rfl
   have ih:=qtw m x r hl d (i+1) n (by omega) (by omega) (by simp only[yg] at hlt;omega) (by omega);rw[show i+1 - 1=i by omega,show (i+1==1)=false by simp;omega] at ih;rw[hrun,qtu,qtu,qGz,qtt];have hfin:qju qHL (qhX m) n (x :: r) (wrap .i64 (((i:Nat):Int)+1))=qHL ((i+(runB x d false (r.drop i)+1):Nat):Int):=by
    rw[qj (by omega),ih,show i+1+runB x d false (r.drop i)=i+(runB x d false (r.drop i)+1) by omega]
   by_cases h1:i=1
   ·subst h1;rw[show (((1:Nat):Int)==1)=true from rfl,show ((1:Nat)==1)=true from rfl,yc,Bool.not_true,Bool.false_or];cases z237 y&&z238 x y
    ·rfl
    ·exact hfin
   ·rw[show (((i:Nat):Int)==1)=false by simp;omega,show (i==1)=false by simpa using h1,yd,Bool.not_false,Bool.true_or,yi];cases z237 y
    ·rfl
    ·exact hfin
  ·have hi2:i=r.length+1:=by simp only[yg] at hlt;omega
   rw[dF (show ¬ ((i:Nat):Int) < (((x :: r).length:Nat):Int) by omega),yd,yA (by omega)];rfl
theorem qGM:∀ (s0:LU),(qrO s0=true)→∃ n,qtd n s0=qHL (z203 s0):=fun s h=>⟨6,by
 have hl:=qd h;match s with
 | []=>rfl
 | x :: r =>
  simp only[yg] at hl;have h4:=qic x;have ef:z203 (x :: r)=((bif qh x==0 then 0 else 1+runB x (qh x - 1) true r:Nat):Int):=rfl;have e0:z204 (getD (x :: r) (toNat 0) 0)=((qh x:Nat):Int):=rfl;have h0':decide ((0:Int) < (((x :: r).length:Nat):Int))=true:=dT (by simp only[yg];omega);have h00:((((x :: r).length:Nat):Int)==0)=false:=by rw[yB];simp only[yg];omega
  unfold qtd;rw[ef,e0,h0',h00];simp only[yd,yi,show decide ((0:Int)≤0)=true from rfl,yc]
  by_cases h0:qh x=0
  ·rw[h0];rfl
  ·rw[show (qh x==0)=false by simpa using h0,show (((qh x:Nat):Int)==0)=false by rw[yB];omega,yd,yd];have:=qtw 6 x r (by omega) (qh x - 1) 1 6 (by omega) (yv 1) (by omega) (by omega);rw[show (1:Nat) - 1=0 from rfl,yw] at this;exact this⟩
theorem qow (m:Nat) (s:LU) (N:Nat) (hl:s.length≤1048576) (hN:N≤s.length):∀ (d i n b c:Nat),i+d=N→d < n→c < b→b*64 ^ d≤67108864→((s.drop i).take d).all z237=true →
 qky (qlU m) n s (N:Int) (c:Int) (i:Nat)=qcT (foldS ((s.drop i).take d) c) N 0
 | d,i,0,b,c,hi,hn,_,_,_=>by omega
 | 0,i,n+1,b,c,hi,hn,hc,hb,_=>by
  obtain rfl:i=N:=by omega
  show qeg _ _ n _ _ _ _=_;unfold qeg;rw[dF (by omega),yd,List.take_zero];show qcT (wrap .i32 (c:Int)) _ 0=_;rw[IntWalk.i32_in _ (by omega)];rfl
 | d+1,i,n+1,b,c,hi,hn,hc,hb,hF=>by
  show qeg _ _ n _ _ _ _=_;unfold qeg;have hlt:i < s.length:=by omega
  have h64:0 < 64 ^ d:=Nat.pow_pos (by decide);have hb':b*64*64 ^ d≤67108864:=by rw[Nat.pow_succ] at hb;rwa[Nat.mul_assoc,Nat.mul_comm 64]
  have hb2:b*64≤b*64*64 ^ d:=Nat.le_mul_of_pos_right _ h64;rw[qaS hlt,List.take_succ_cons,List.all_cons,yf] at hF;have hy:=low6 (s.getD i 0);have hyf:=low6f hF.1;simp (disch:=omega) only [dT,yc,yi,tn];have e1:wrap .i64 ((wrap .i64 ((wrap .i64 ((64:Int)*(c:Int)))+(wrap .i64 (((s.getD i 0).toNat:Nat):Int)))) - (128:Int))=((c*64+((s.getD i 0) &&& 63).toNat:Nat):Int):=by
   rw[IntWalk.i64_in (64*(c:Int)) (by omega),IntWalk.i64_in (((s.getD i 0).toNat:Nat):Int) (by omega),IntWalk.i64_in (64*(c:Int)+_) (by omega),IntWalk.i64_in _ (by omega)];omega
  rw[e1,qj (by omega),qow m s N hl hN d (i+1) n (b*64) _ (by omega) (by omega) (by omega) hb' hF.2,qaS hlt,List.take_succ_cons];show _=qcT (foldS ((s.drop (i+1)).take d) ((c:Int)*64+(((s.getD i 0) &&& 63).toNat:Int))) N 0;congr 2
theorem qGN:∀ (s0:LU),(qrP s0=true)→∃ n,qte n s0=qcT (z152 s0).1 (z152 s0).2.1 (z152 s0).2.2:=fun s h=>⟨s.length+5,by
 have hl:=qd h;match s with
 | []=>rfl
 | x :: r =>
  simp only[yg] at hl;have hf:=qAY x r;have h4:=qic x;obtain⟨N,hN⟩:∃ N,farN (x :: r)=N:=⟨_,rfl⟩;have eT:z152 (x :: r)=bif farN (x :: r)==0 then ((0:Int),((1:Int),(3:Int))) else bif decide (farN (x :: r) < qh x)&&(farN (x :: r)==(x :: r).length) then (0,(farN (x :: r):Nat),4)
   else bif decide (farN (x :: r) < qh x) then (0,(farN (x :: r):Nat),3) else (signN (farN (x :: r)) (x :: r),(farN (x :: r):Nat),0):=rfl
  have eF:z203 (x :: r)=(N:Int):=by rw[← hN];rfl
  have eS:z204 (getD (x :: r) (toNat 0) 0)=((qh x:Nat):Int):=rfl;have hok:qrO (x :: r)=true:=qn (show (x :: r).length≤1048576 by simp only[yg];omega);have h0:decide ((0:Int) < (((x :: r).length:Nat):Int))=true:=dT (by simp only[yg];omega);have h00:((((x :: r).length:Nat):Int)==0)=false:=by rw[yB];simp only[yg];omega
  rw[eT,hN];rw[hN] at hf;unfold qte;rw[eF,eS,hok,h0,h00];simp only[yi,yc,yd,show decide ((0:Int)≤0)=true from rfl]
  by_cases hz:N=0
  ·subst hz;rw[show decide ((0:Int) < ((0:Nat):Int))=false from rfl,show (((0:Nat):Int)==(((x :: r).length:Nat):Int))=false by rw[yB];simp only[yg];omega];rfl
  ·rw[dT (show (0:Int) < ((N:Nat):Int) by omega),show (N==0)=false by simpa using hz];simp only[yc,yd]
   by_cases hs:N < qh x
   ·rw[show (((N:Nat):Int)==((qh x:Nat):Int))=false by rw[yB];omega,yo hs];simp only[yc,y6,yd]
    by_cases hlN:N=(x :: r).length
    ·rw[show (((N:Nat):Int)==(((x :: r).length:Nat):Int))=true by rw[beq_iff_eq];omega,show (N==(x :: r).length)=true by simpa using hlN];rfl
    ·rw[show (((N:Nat):Int)==(((x :: r).length:Nat):Int))=false by rw[yB];omega,show (N==(x :: r).length)=false by simpa using hlN,yd,yd];rw[show decide ((1:Int) > ((N:Nat):Int))=false from dF (by omega)];rfl
   ·have hNs:N=qh x:=by omega
    rw[show (((N:Nat):Int)==((qh x:Nat):Int))=true by rw[beq_iff_eq];omega,yx hs];simp only[yd,Bool.false_and,yc];rw[dT (show (0:Int)≤((N:Nat):Int) by omega),dT (show ((N:Nat):Int) < ((([(0:Int),(0:Int),(192:Int),(224:Int),(240:Int)]:LI).length:Nat):Int) by show ((N:Nat):Int) < ((5:Nat):Int);omega)];simp only[yi,yc,tn];have e2:getD (x :: r) (toNat 0) 0=x:=rfl;have hx:=(x &&& (255 ^^^ z185 ((N:Nat):Int))).toNat_lt;have hfs:=qcn (P:=fun x=>(qh x==0||((x.toNat:Int) - getD ([(0:Int),(0:Int),(192:Int),(224:Int),(240:Int)]:LI) (qh x) 0==(((x &&& (255 ^^^ (z185 ((qh x:Nat):Int)))).toNat:Nat):Int)))=true) qve x;rw[show (qh x==0)=false by rw[yB];omega,Bool.false_or,beq_iff_eq,← hNs] at hfs;have hxl:=x.toNat_lt;rw[e2,IntWalk.i64_in ((x.toNat:Nat):Int) (by omega),hfs,IntWalk.i64_in _ (by omega)];have hall:((r.take (N - 1)).all z237)=true:=by
     refine qBe x (N - 1) true r ?_;have hN':(bif qh x==0 then 0 else 1+runB x (qh x - 1) true r)=N:=hN;rw[show (qh x==0)=false by rw[yB];omega,yd,← hNs] at hN';omega
    have:=qow ((x :: r).length+5) (x :: r) N (by simp only[yg];omega) (by simp only[yg];omega) (N - 1) 1 ((x :: r).length+5) 256 _ (by omega) (by simp only[yg];omega) hx (by
     have:N - 1=0∨N - 1=1∨N - 1=2∨N - 1=3:=by omega
     rcases this with e | e | e | e <;> rw[e] <;> decide) hall
    exact this⟩
theorem qtx (m:Nat) (s:LU) (hl:s.length≤1048576):∀ (n k i:Nat) (out:LI) (b:Nat) (f:Int),s.length - i < n→s.length - i < k→out.length≤i→b≤i→i≤s.length →
 qqN (qlW m) n s out (b:Int) f (i:Int)=qoc (out++utfR k (s.drop i)) (utfE k (s.drop i) ((b:Int),f)).1 (utfE k (s.drop i) ((b:Int),f)).2
 | 0,k,i,out,b,f,hn,_,_,_,_=>by omega
 | n+1,0,i,out,b,f,_,hk,_,_,_=>by omega
 | n+1,k+1,i,out,b,f,hn,hk,ho,hb,hi=>by
  show qlV _ (qqN (qlW m) n) n _ _ _ _ _=_;unfold qlV qeh qbm
  by_cases hlt:i < s.length
  ·obtain⟨x,r,hx⟩:∃ x r,s.drop i=x :: r:=⟨_,_,qaS hlt⟩;have hrl:r.length+1+i=s.length:=by have:=congrArg length hx;rw[yK,yg] at this;omega
   obtain⟨e1,e2⟩:=qIP x r;have e3:=qpj x r;rw[dT (show ((i:Nat):Int) < ((s.length:Nat):Int) by omega),dT (show (0:Int)≤((i:Nat):Int) by omega),dT (show ((i:Nat):Int)≤((s.length:Nat):Int) by omega),dT (Int.le_refl _),tn,tn,List.take_length,hx];simp only[yc,yi];rw[show qrP (x :: r)=true from qn (by simp only[yg];omega),yc];rw[show z152 (x :: r)=z178 (x :: r) from rfl];generalize hw:(z178 (x :: r)).2.1.toNat=w at e1 e2 e3;rw[e1,show decide ((1:Int) > (w:Int))=false from dF (by omega),yd,show wrap .i64 (((i:Nat):Int)+(w:Int))=((i+w:Nat):Int) by rw[IntWalk.i64_in _ (by omega)];omega];have hdr:(x :: r).drop w=s.drop (i+w):=by rw[← hx,List.drop_drop]
   have hroom:∀ y:Int,out.length+([y]:LI).length≤room:=fun y=>by show out.length+1≤room;unfold room;omega
   have eR:utfR (k+1) (x :: r)=(bif (z178 (x :: r)).2.2 != 0 then 65533 else (z178 (x :: r)).1) :: utfR k (s.drop (i+w)):=by
    rw[← hdr,← hw];rfl
   have eE:utfE (k+1) (x :: r) ((b:Int),f)=utfE k (s.drop (i+w)) (bif (z178 (x :: r)).2.2 != 0 then ((b:Int)+1,bif f==0 then (z178 (x :: r)).2.2 else f) else ((b:Int),f)):=by
    rw[← hdr,← hw];rfl
   rw[eR,eE,dT (hroom 65533),dT (hroom (z178 (x :: r)).1)];have ih:=fun (y:Int) (b':Nat) (f':Int) (hb':b'≤i+w)=>qtx m s hl n k (i+w) (out++[y]) b' f' (by omega) (by omega) (by rw[yn];show out.length+1≤_;omega) hb' (by omega);cases hc:((z178 (x :: r)).2.2 != 0) with
   | false =>
    simp only[yd,yc];rw[ih _ b f (by omega),yl];rfl
   | true =>
    simp only[yc];rw[qj (by omega)];have hbe:(b:Int)+1=((b+1:Nat):Int):=by omega
    rw[hbe];cases hf:f==0 with
    | true=>simp only[yc];rw[ih 65533 (b+1) _ (by omega),yl];rfl
    | false=>simp only[yd];rw[ih 65533 (b+1) _ (by omega),yl];rfl
  ·rw[dF (by omega),yd,yA (by omega)];show qoc out (b:Int) f=qoc (out++[]) _ _;rw[yG];rfl
theorem qMt:∀ (s0:LU),(qCu s0=true)→∃ n,qLJ n s0=qoc (z89 s0).1 (z89 s0).2.1 (z89 s0).2.2:=fun s h=>⟨s.length+1,by
 have hl:=qd h;have:=qtx (s.length+1) s hl (s.length+1) (s.length+1) 0 [] 0 0 (by omega) (by omega) (by simp) (yv 0) (by omega);rw[yw,List.nil_append] at this;exact this⟩
theorem qMu:∀ (charset0:Int) (s1:LU),(qnd charset0 s1=true)→∃ n,qFy n charset0 s1=qAg (z42 charset0 s1):=fun cs s h=>⟨s.length+1,by
 have hl:=qd h;unfold qFy;rw[show qCu s=true from h];cases h5:cs==5 with
 | true =>
  have:=beq_iff_eq.1 h5;subst this;rfl
 | false =>
  rw[yd];have:=qjC (t:=s) (dv:=0) (f:=fun c=>[qjF cs c]) (q:=fun _=>true) (b:=1) (k0:=qlY (s.length+1)) (R:=none)
   (L:=fun n out i=>quV (qlY (s.length+1)) n cs s out i) (fun x=>yv 1) (fun n i out hi hb=>by
    show qgK _ _ n _ _ _ _=_;unfold qgK qbM qR qaq;have hr:∀ y:Int,out.length+([y]:LI).length≤room:=fun y=>hb;simp (disch:=omega) only [dT,yc,yi,tn,qj];rw[qgX,u127];unfold qjF z114;cases h1:cs==1 with
    | true =>
     have hcs:=beq_iff_eq.1 h1;subst hcs;cases decide ((128:Int)≤((s.getD i 0).toNat:Int)) <;> rfl
    | false=>cases cs==3 <;> cases cs==4 <;> rfl) (fun n out=>by
    show qgK _ _ n _ _ _ _=_;unfold qgK qbM qR qaq;rw[dF (by omega)];rfl) s.length 0 (s.length+1) [] (by omega) (by omega) (by show 0+_≤room;unfold room;omega)
  rw[yw,qjE,yc,List.nil_append,qjD] at this;refine this.trans ?_;show qAg (s.map (qjF cs))=qAg (z29 cs s);unfold z29;rw[h5];have hf:∀ b:Bool,(cs==1)=b→True:=fun _ _=>trivial;cases h1:cs==1 with
  | true=>rw[show qjF cs=fun c:UInt8=>z114 (c.toNat:Int) from funext fun c=>by unfold qjF;rw[h1];rfl];rfl
  | false =>
   cases h3:cs==3 with
   | true=>rw[show qjF cs=z90 from funext fun c=>by unfold qjF;rw[h1,h3];rfl];rfl
   | false =>
    cases h4:cs==4 with
    | true=>rw[show qjF cs=z91 from funext fun c=>by unfold qjF;rw[h1,h3,h4];rfl];rfl
    | false=>rw[show qjF cs=fun c:UInt8=>(c.toNat:Int) from funext fun c=>by unfold qjF;rw[h1,h3,h4];rfl];rfl⟩
theorem qBf (m:Nat) (c:UInt8):∀ (d i n:Nat),i+d=64→d < n→qkw qje (qlP m) n c (i:Nat)=qje (valF d i c).1 (valF d i c).2
 | d,i,0,hi,hn=>by omega
 | 0,i,n+1,hi,hn=>by
  show qed _ _ _ n _ _=_;unfold qed;rw[dF (by omega)];rfl
 | d+1,i,n+1,hi,hn=>by
  show qed _ _ _ n _ _=_;unfold qed;rw[dT (by omega),yc,qj (by omega),qBf m c d (i+1) n (by omega) (by omega)];show _=qje (bif z191 (i:Int)==c then ((i:Int),true) else valF d (i+1) c).1 (bif z191 (i:Int)==c then ((i:Int),true) else valF d (i+1) c).2;cases (z191 (i:Int)==c) <;> rfl
theorem qGO:∀ (c0:UInt8),∃ n,qtb n c0=qje (z150 c0).1 (z150 c0).2:=fun c=>⟨65,by
 have h:=qcn (P:=fun c=>(valF 64 0 c==z175 c)=true) qMq c;rw[beq_iff_eq] at h;unfold qtb z150;rw[← h];exact qBf 65 c 64 0 65 rfl (by omega)⟩
theorem qgY (j:Nat) (s:LU) (hl:s.length≤1048576):∀ (d i n:Nat) (out:LU) (k:Nat),i+d=s.length→d < n→out.length≤i→k≤i →
 quT (qqM j) n s out (k:Int) (i:Nat)=qAa (out++digB (s.drop i)) ((k+((((s.drop i).takeWhile fun c=>c != 61).filter fun c => !(isB64 c)).length):Nat):Int)
 | d,i,0,out,k,hi,hn,_,_=>by omega
 | 0,i,n+1,out,k,hi,hn,_,_=>by
  obtain rfl:i=s.length:=by omega
  show qgH _ _ n _ _ _ _=_;unfold qgH;rw[dF (by omega),yd,List.drop_length];show qAa out (k:Int)=qAa (out++[]) _;rw[yG];rfl
 | d+1,i,n+1,out,k,hi,hn,ho,hk=>by
  show qgH _ _ n _ _ _ _=_;unfold qgH;have hlt:i < s.length:=by omega
  have hr:out.length+([s.getD i 0]:LU).length≤room:=by show out.length+1≤room;unfold room;omega
  rw[qaS hlt,qts,List.takeWhile_cons];simp (disch:=omega) only [dT,yc,yi,tn];cases h61:s.getD i 0==61 with
  | true =>
   have hne:(s.getD i 0 != 61)=false:=by rw[bne,h61];rfl
   rw[hne];show qAa out (k:Int)=qAa (out++[]) _;rw[yG];rfl
  | false =>
   have hne:(s.getD i 0 != 61)=true:=by rw[bne,h61];rfl
   rw[hne,yc,if_pos rfl,yd,List.filter_cons,show (z150 (s.getD i 0)).2=isB64 (s.getD i 0) from rfl];cases hv:isB64 (s.getD i 0) with
   | true =>
    rw[yc,qj (by omega),qgY j s hl d (i+1) n _ k (by omega) (by omega) (by rw[yn];show out.length+1≤_;omega) (by omega),yl];rfl
   | false =>
    rw[yd,qj (by omega),qj (by omega),qgY j s hl d (i+1) n out (k+1) (by omega) (by omega) (by omega) (by omega)];simp only[Bool.not_false,if_true,yg,yd];rw[show k+1+((((s.drop (i+1)).takeWhile fun c=>c != 61).filter fun c => !(isB64 c)).length)=k+(((((s.drop (i+1)).takeWhile fun c=>c != 61).filter fun c => !(isB64 c)).length)+1) by omega]
theorem qMv:∀ (s0:LU),(qCA s0=true)→∃ n,qLG n s0=qAa (z86 s0).1 (z86 s0).2:=fun s h=>⟨s.length+1,by
 have hl:=qd h;have:=qgY (s.length+1) s hl s.length 0 (s.length+1) [] 0 (by omega) (by omega) (by simp) (yv 0);rw[yw,List.nil_append,yE] at this;exact this⟩
theorem qMw (k2:LU→LI→Int→OA) (n:Nat) (s:LU) (out:LI) (i5:Int) (v:Nat) (hv:v < 64) (ho:out.length+6≤room):qlR k2 (n+7) s out i5 (v:Int) 5=k2 s (out++qbw (v:Int)) i5:=by
 have h6:=qGA ⟨v,hv⟩;have hr:∀ (o:LI) (y:Int),o.length+1≤room→decide (o.length+([y]:LI).length≤room)=true:=fun o y h=>yo h;have step:∀ (q:Nat) (o:LI) (k:Nat),o.length+1≤room→k < 6→qlR k2 (q+1) s o i5 (v:Int) (k:Int)=qlR k2 q s (o++[tmod (Int.fdiv (v:Int) (2 ^ (min (toNat (k:Int)) (IntKind.bits .i64)))) 2]) i5 (v:Int) (wrap .i64 ((k:Int) - 1)):=fun q o k ho hk=>by
  show qlQ _ _ q _ _ _ _ _=_;unfold qlQ;rw[dT (show (0:Int)≤(k:Int) by omega),hr _ _ ho];rfl
 have e:qlR k2 (n+7) s out i5 (v:Int) ((5:Nat):Int)=k2 s (out++qbw (v:Int)) i5:=by
  rw[step (n+6) _ 5 (by omega) (by omega),show wrap .i64 (((5:Nat):Int) - 1)=((4:Nat):Int) from rfl,step (n+5) _ 4 (by simp;omega) (by omega),show wrap .i64 (((4:Nat):Int) - 1)=((3:Nat):Int) from rfl,
   step (n+4) _ 3 (by simp;omega) (by omega),show wrap .i64 (((3:Nat):Int) - 1)=((2:Nat):Int) from rfl,step (n+3) _ 2 (by simp;omega) (by omega),show wrap .i64 (((2:Nat):Int) - 1)=((1:Nat):Int) from rfl,
   step (n+2) _ 1 (by simp;omega) (by omega),show wrap .i64 (((1:Nat):Int) - 1)=((0:Nat):Int) from rfl,step (n+1) _ 0 (by simp;omega) (by omega)]
  show k2 s _ i5=_;rw[yl,yl,yl,yl,yl,← h6];rfl
 exact e
theorem qkG (j:Nat) (s:LU) (hl:s.length≤1048576):∀ (d i n:Nat) (out:LI),i+d=s.length→d+8 < n→out.length≤6*i →
 qob qdF (qjt j) n s out (i:Nat)=bif (s.drop i).all isB64 then qdF (out++bitsB (s.drop i)) true else qdF [] false
 | d,i,0,out,hi,hn,_=>by omega
 | 0,i,n+1,out,hi,hn,_=>by
  obtain rfl:i=s.length:=by omega
  show qeP _ _ _ n _ _ _=_;unfold qeP;rw[dF (by omega),yd,List.drop_length];show qdF out true=qdF (out++[]) true;rw[yG]
 | d+1,i,n+1,out,hi,hn,ho=>by
  show qeP _ _ (qob qdF (qjt j) n) n _ _ _=_;unfold qeP;have hlt:i < s.length:=by omega
  rw[qaS hlt,List.all_cons];simp (disch:=omega) only [dT,yc,yi,tn];rw[show (z150 (s.getD i 0)).2=isB64 (s.getD i 0) from rfl];cases hv:isB64 (s.getD i 0) with
  | false=>rfl
  | true =>
   obtain⟨v,hv1,hv2⟩:=qBb (s.getD i 0);obtain⟨n',rfl⟩:∃ n',n=n'+7:=⟨n - 7,by omega⟩;rw[Bool.not_true,yd,y6,show (z150 (s.getD i 0)).1=(v:Int) from hv1,qMw _ _ _ _ _ v hv2 (by unfold room;omega)];show qob qdF (qjt j) (n'+7) s (out++qbw (v:Int)) (wrap .i64 (((i:Nat):Int)+1))=_;rw[qj (by omega),qkG j s hl d (i+1) (n'+7) _ (by omega) (by omega) (by rw[yn];show out.length+6≤_;omega),yl];have e:bitsB (s.getD i 0 :: s.drop (i+1))=qbw (v:Int)++bitsB (s.drop (i+1)):=by rw[← hv1];rfl
   rw[e]
theorem qMx:∀ (s0:LU),(qui s0=true)→∃ n,qLH n s0=qdF (z87 s0).1 (z87 s0).2:=fun s h=>⟨s.length+9,by
 have hl:=qd h;have:=qkG (s.length+9) s hl s.length 0 (s.length+9) [] (by omega) (by omega) (by simp);rw[yw,List.nil_append] at this;refine this.trans ?_;unfold z87;cases s.all isB64 <;> rfl⟩
theorem qkH (j:Nat) (l:LI) (hl:l.length≤16777216):∀ (d i n:Nat) (out:LU),8*i≤l.length→l.length / 8=i+d→d < n→out=octs i l→quU (qlT j) n l out ((8*i:Nat):Int)=qqx (z88 l).1 (z88 l).2
 | d,i,0,out,h8,hi,hn,_=>by omega
 | 0,i,n+1,out,h8,hi,hn,ho=>by
  show qgI _ _ n _ _ _=_;unfold qgI qcJ;rw[show wrap .i64 (((8*i:Nat):Int)+8)=((8*i+8:Nat):Int) by rw[IntWalk.i64_in _ (by omega)];omega,dF (by omega),yd];unfold qlT;have hok:qfx (drop (toNat ((8*i:Nat):Int)) (take (toNat ((l.length:Nat):Int)) l))=true:=by
   unfold qfx;rw[tn,tn,List.take_length];exact yo (by rw[yK];omega)
  rw[hok,tn,tn,List.take_length];simp (disch:=omega) only [dT,yc,yi];unfold z88;rw[hi,ho,Nat.add_zero,Nat.mul_comm i 8]
 | d+1,i,n+1,out,h8,hi,hn,ho=>by
  show qgI _ _ n _ _ _=_;unfold qgI qcJ;have hol:out.length=i:=by rw[ho,qpk]
  have e8:wrap .i64 (((8*i:Nat):Int)+8)=((8*(i+1):Nat):Int):=by rw[IntWalk.i64_in _ (by omega)];omega
  rw[e8,tn,tn];have hok:qfx (drop (8*i) (take (8*(i+1)) l))=true:=by
   unfold qfx;exact yo (by rw[yK,yz];omega)
  have hr:∀ y:UInt8,out.length+([y]:LU).length≤room:=fun y=>by show out.length+1≤room;unfold room;omega
  rw[hok];simp (disch:=omega) only [dT,yc,yi];rw[dT (hr _),yc];refine qkH j l hl d (i+1) n _ (by omega) (by omega) (by omega) ?_;have e:octs (i+1) l=octs i l++[oct8 (z151 ((l.drop (8*i)).take 8))]:=by
   have h1:l=l.take (8*i)++l.drop (8*i):=(yX _ _).symm;have hlen:(l.take (8*i)).length=8*i:=by rw[yz];omega
   have h2:octs (i+1) l=octs (i+1) (l.take (8*i)++l.drop (8*i)):=by rw[← h1]
   have h3:octs i l=octs (i+0) (l.take (8*i)++l.drop (8*i)):=by rw[← h1];rfl
   rw[h2,h3,qiI i 1 _ _ hlen,qiI i 0 _ _ hlen];simp[octs]
  rw[e,ho,List.drop_take,show 8*(i+1) - 8*i=8 by omega];rfl
theorem qMy:∀ (l0:LI),(quj l0=true)→∃ n,qLI n l0=qqx (z88 l0).1 (z88 l0).2:=fun l h=>⟨l.length / 8+1,by
 have hl:l.length≤16777216:=of_decide_eq_true h;exact qkH (l.length / 8+1) l hl (l.length / 8) 0 (l.length / 8+1) [] (by omega) (by omega) (by omega) rfl⟩
theorem qMz:∀ (s0:LU),(qCB s0=true)→∃ n,qRr n s0=qAa (z41 s0).1 (z41 s0).2:=fun s h=>⟨0,by
 have hl:=qd h;have hd:=qwB s;have hall:(digB s).all isB64=true:=List.all_eq_true.2 fun c hc=>(List.mem_filter.1 hc).2;have eD:(z86 s).1=digB s:=rfl;have eV:(z87 (digB s)).1=bitsB (digB s):=by unfold z87;rw[hall];rfl
 unfold qRr;rw[show qCA s=true from h,eD,show qui (digB s)=true from qn (by omega),eV,show quj (bitsB (digB s))=true from yo (by rw[qhP];omega)];rfl⟩
theorem qBg (j:Nat) (s:LU) (hl:s.length≤1048576) (n e k:Nat) (he:e≤s.length) (hk:k < 2):qfS (qbH j) (n+1) s (e:Int) (k:Int) =
 bif (s.take e).getLast? == some 61 then qfS (qbH j) n s ((e - 1:Nat):Int) ((k+1:Nat):Int) else qbH j s (e:Int):=by
 show qel _ _ n _ _ _=_;unfold qel;rw[dT (show (k:Int) < 2 by omega),yc];match e,he with
 | 0,_=>rfl
 | e+1,he =>
  have h1:=qGB (s:=s) (e:=e) (by omega);rw[dT (show (0:Int) < ((e+1:Nat):Int) by omega),yc,show wrap .i64 (((e+1:Nat):Int) - 1)=((e:Nat):Int) by rw[IntWalk.i64_in _ (by omega)];omega,tn,h1.1,
   dT (show (0:Int)≤(e:Int) by omega),dT (show (e:Int) < ((s.length:Nat):Int) by omega),qj (by omega)]
  show (bif s.getD e 0==61 then _ else _)=bif (some (s.getD e 0)==some 61) then _ else _
  rw[show (some (s.getD e 0)==some (61:UInt8))=(s.getD e 0==61) from rfl];cases s.getD e 0==61 <;> rfl
theorem qMA (j:Nat) (s:LU) (hl:s.length≤1048576):∃ e:Nat,qfS (qbH j) 3 s ((s.length:Nat):Int) 0=qbH j s (e:Int)∧e≤s.length∧s.take e=bodyB s:=by
 have h0:=qBg j s hl 2 s.length 0 (yv _) (by omega);rw[List.take_length] at h0;rw[show ((0:Nat):Int)=0 from rfl] at h0;unfold bodyB;cases hg:s.getLast? == some 61 with
 | false =>
  rw[hg] at h0;refine⟨s.length,h0,yv _,?_⟩;rw[List.take_length];simp only[yd];rw[hg];rfl
 | true =>
  rw[hg,yc] at h0;have hne:s≠[]:=by rintro rfl;cases hg
  have hpos:=List.length_pos_iff.2 hne;have hdl:s.dropLast=s.take (s.length - 1):=by rw[List.dropLast_eq_take]
  have h1:=qBg j s hl 1 (s.length - 1) 1 (by omega) (by omega);rw[← hdl] at h1;rw[h1] at h0;have hlen:(s.dropLast.length != s.length)=true:=by rw[bne_iff_ne,List.length_dropLast];omega
  simp only[yc];rw[hlen,yi];cases hg2:s.dropLast.getLast? == some 61 with
  | false =>
   rw[hg2] at h0;exact⟨s.length - 1,h0,by omega,hdl.symm⟩
  | true =>
   rw[hg2,yc] at h0;refine⟨s.length - 1 - 1,?_,by omega,?_⟩
   ·rw[h0];show qel _ _ 0 _ _ _=_;unfold qel;rw[dF (show ¬ ((1+1:Nat):Int) < 2 by omega),yd]
   ·rw[yc,List.dropLast_eq_take,hdl,List.take_take,yz];congr 1;omega
theorem qGP:∀ (s0:LU),(qrT s0=true)→∃ n,qAL n s0=qAa (z104 s0).1 (z104 s0).2:=fun s h=>⟨3,by
 have hl:=qd h;obtain⟨e,h1,h2,h3⟩:=qMA 3 s hl;refine(show _=qfS (qbH 3) 3 s ((s.length:Nat):Int) 0 from rfl).trans (h1.trans ?_);unfold qbH qbq;have hb:=qBc s;rw[tn,tn,yw,h3,tmod4,show qui (bodyB s)=true from qn (by omega)];simp (disch:=omega) only [dT,yc,yi];show _=qAa (z148 s).1 (z148 s).2;unfold z87 z148;cases (bodyB s).all isB64 with
 | false=>rfl
 | true =>
  simp only[yc,Bool.not_true,yd];rw[show quj (bitsB (bodyB s))=true from yo (by rw[qhP];omega)];cases (s.length % 4 != 0)
  ·cases (z88 (bitsB (bodyB s))).2 <;> rfl
  ·rfl⟩
theorem qgZ (j:Nat) (s:LU) (hl:s.length≤1048576):∀ (d n e:Nat),d≤s.length→d < n→e=d+((s.drop d).takeWhile fun c=>c != 42).length →
 qkz (qfQ j) n s (e:Int) ((d:Int) - 1)=qfQ j s (((s.takeWhile fun c=>c != 42).length:Nat):Int)
 | d,0,e,hd,hn,_=>by omega
 | 0,n+1,e,hd,hn,he=>by
  show qei _ _ n _ _ _=_;unfold qei;rw[show decide ((0:Int)≤((0:Nat):Int) - 1)=false from rfl,yd,he,yw,yE]
 | d+1,n+1,e,hd,hn,he=>by
  show qei _ _ n _ _ _=_;unfold qei;have hlt:d < s.length:=by omega
  rw[show ((d+1:Nat):Int) - 1=((d:Nat):Int) by omega,tn];simp (disch:=omega) only [dT,yc,yi];rw[show wrap .i64 ((d:Int) - 1)=(d:Int) - 1 from IntWalk.i64_in _ (by omega)];have hdc:=qaS hlt;cases h:s.getD d 0==42 with
  | true =>
   have hne:(s.getD d 0 != 42)=false:=by rw[bne,h];rfl
   rw[yc];exact qgZ j s hl d n d (by omega) (by omega) (by rw[hdc,List.takeWhile_cons,hne];rfl)
  | false =>
   have hne:(s.getD d 0 != 42)=true:=by rw[bne,h];rfl
   rw[yd];exact qgZ j s hl d n e (by omega) (by omega) (by rw[hdc,List.takeWhile_cons,hne,if_pos rfl,yg,he];omega)
theorem qGQ:∀ (s0:LU),(qrQ s0=true)→∃ n,qtl n s0=qzR (z100 s0):=fun s h=>⟨s.length+1,by
 have hl:=qd h;have hw:=qcl (fun c:UInt8=>c != 42) s;unfold qtl;rw[show wrap .i64 (((s.length:Nat):Int) - 1)=((s.length:Nat):Int) - 1 from IntWalk.i64_in _ (by omega)];refine(qgZ (s.length+1) s hl s.length (s.length+1) s.length (yv _) (by omega) (by rw[List.drop_length];rfl)).trans ?_;unfold qfQ;rw[tn,tn,yw,qou,show qun (s.takeWhile fun c=>c != 42)=true from qn (by omega)];simp (disch:=omega) only [dT,yc,yi];rfl⟩
theorem qox (ret:Int→Int→OA) (k2:LU→Int→OA) (b:LU) (n5:Int) (l:List LU) (hl:l.length≤100):∀ (d i n:Nat),i+d=l.length→d < n →
 quZ ret k2 n b n5 l (i:Nat)=bif (l.drop i).any (fun x=>x==b) then ret n5 0 else k2 b n5
 | d,i,0,hi,hn=>by omega
 | 0,i,n+1,hi,hn=>by
  obtain rfl:i=l.length:=by omega
  show qgP _ _ _ n _ _ _ _=_;unfold qgP;rw[dF (by omega),yd,List.drop_length];rfl
 | d+1,i,n+1,hi,hn=>by
  show qgP _ _ _ n _ _ _ _=_;unfold qgP;have hlt:i < l.length:=by omega
  have ih:=qox ret k2 b n5 l hl d (i+1) n (by omega) (by omega);have e:l.drop i=l.getD i [] :: l.drop (i+1):=by
   rw[List.drop_eq_getElem_cons hlt,yY,yO hlt];rfl
  rw[e,List.any_cons];simp (disch:=omega) only [dT,yc,yi,tn,qj];rw[ih];cases (l.getD i []==b) <;> rfl
theorem qMB:∀ (s0:LU),(qCx s0=true)→∃ n,qFE n s0=qfO (z46 s0).1 (z46 s0).2:=fun s h=>⟨20,by
 have hl:=qd h;have hb:=qIN s;unfold qFE;rw[show qrQ s=true from h,show quk (z100 s)=true from qn (by show (z96 s).length≤_;omega)];show qjV qfO (qeX 20) 20 (z92 (z96 s)) 1=qfO (z44 s).1 (z44 s).2;have step:∀ (n:Nat) (v:Nat) (b:LU),v≤5→5 < n→qjV qfO (qeX 20) (n+1) b (v:Int)=bif (z156 (v:Int)).any (fun x=>x==b) then qfO (v:Int) 0 else qjV qfO (qeX 20) n b ((v+1:Nat):Int):=fun n v b hv hn=>by
  show qjw _ _ _ n _ _=_;unfold qjw;have hnl:=qGC (v:Int);rw[dT (show (v:Int)≤5 by omega),yc];refine(qox _ _ b (v:Int) (z156 (v:Int)) (by omega) (z156 (v:Int)).length 0 n (by omega) (by omega)).trans ?_;rw[yw];unfold qqS;rw[qj (by omega)]
 have e6:∀ (n:Nat) (b:LU),qjV qfO (qeX 20) (n+1) b ((6:Nat):Int)=qfO 0 10:=fun n b=>rfl;have hL:qjV qfO (qeX 20) 20 (z92 (z96 s)) ((1:Nat):Int)=_:=step 19 1 _ (by omega) (by omega);rw[step 18 2 _ (by omega) (by omega),step 17 3 _ (by omega) (by omega),step 16 4 _ (by omega) (by omega),step 15 5 _ (by omega) (by omega),e6] at hL;refine hL.trans ?_;have hR:qjR (z92 (z96 s)) z95=qjR (z92 (z96 s)) ((z156 1).map (fun s=>(s,(1:Int)))++((z156 2).map (fun s=>(s,(2:Int)))++((z156 3).map (fun s=>(s,(3:Int)))++((z156 4).map (fun s=>(s,(4:Int)))++((z156 5).map (fun s=>(s,(5:Int)))++[]))))):=rfl;unfold z44;rw[hR,qcK,qcK,qcK,qcK,qcK];generalize z92 (z96 s)=b;show (bif (z156 1).any (fun x=>x==b) then qfO 1 0 else bif (z156 2).any (fun x=>x==b) then qfO 2 0 else bif (z156 3).any (fun x=>x==b) then qfO 3 0 else bif (z156 4).any (fun x=>x==b) then qfO 4 0 else bif (z156 5).any (fun x=>x==b) then qfO 5 0 else qfO 0 10)=_;cases (z156 1).any (fun x=>x==b)
 ·cases (z156 2).any (fun x=>x==b)
  ·cases (z156 3).any (fun x=>x==b)
   ·cases (z156 4).any (fun x=>x==b)
    ·cases (z156 5).any (fun x=>x==b) <;> rfl
    ·rfl
   ·rfl
  ·rfl
 ·rfl⟩
end
end Go.Av
