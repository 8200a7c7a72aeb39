import Derived.Test.YtmageajchmoomaaGreatDoorCbSh
import Derived.Test.YtmageajchmoomaaGreatDoorCbB
import Derived.Test.YtmageajchmoomaaGreatDoorAvE
import Derived.Lib.IndexAny
import Derived.Lib.IndexMore
import Derived.Lib.IndexBytes
import Derived.IntWalk
import Derived.KernelRfl
namespace Go.Av
set_option linter.unusedSimpArgs false
set_option linter.unusedVariables false
section
open List (getD take replicate set)
open Int (toNat)
open UInt8 (ofNat)
open IntKind (wrap)
variable {i:Nat} {x a b:Int}
theorem qsr {α:Type} [DecidableEq α] {a b:List α} (ha:i < a.length) (hb:i < b.length) (d:α):decide (a.drop i=b.drop i)=bif a.getD i d != b.getD i d then false else decide (a.drop (i+1)=b.drop (i+1)):=by
 rw[qx (d:=d) ha,qx (d:=d) hb];generalize a.getD i d=x;generalize b.getD i d=y
 by_cases h:x=y
 ·subst h;simp
 ·simp[h]
theorem qHS (ret:Bool→OA) (a b:LU) (hab:a.length=b.length) (hl:a.length≤1048576):∀ (d i n:Nat),i+d=a.length→d < n →
 z7_l4 ret (ret true) n a b (i:Nat)=ret (decide (a.drop i=b.drop i))
 | d,i,0,hi,hn=>by omega
 | 0,i,n+1,hi,hn=>by
  show qjS ret (ret true) (z7_l4 ret (ret true) n) n a b _=_;unfold qjS;rw[yx (by omega),yd,yA (by omega),yA (by omega)];rfl
 | d+1,i,n+1,hi,hn=>by
  show qjS ret (ret true) (z7_l4 ret (ret true) n) n a b _=_;unfold qjS;have hlt:i < a.length:=by omega
  have hlt':i < b.length:=by omega
  have ih:=qHS ret a b hab hl d (i+1) n (by omega) (by omega);rw[qlT,yo hlt,yc,qaK,y6,yc,y6,qlT,yo hlt',yc,ql (by omega),qbR,ih,qsr hlt hlt' 0];cases (a.getD i 0 != b.getD i 0) <;> rfl
theorem qQS:∀ (a0:LU) (b1:LU),(z7_ok a0 b1=true)→∃ n,z7_sh n a0 b1=qga (z7 a0 b1):=fun a b h=>⟨a.length+1,by
 unfold z7_sh z7
 by_cases hab:a.length=b.length
 ·rw[show (((a.length:Nat):Int) != ((b.length:Nat):Int))=false by simp[hab],yd];exact qHS qga a b hab (qf h) a.length 0 (a.length+1) (by omega) (by omega)
 ·rw[show (((a.length:Nat):Int) != ((b.length:Nat):Int))=true by simp only[bne_iff_ne,ne_eq];omega,yc,yx (fun e=>hab (by rw[e]))]⟩
theorem qnx (c:UInt8):decide (((UInt8.toNat c:Nat):Int) < (256:Nat))=true:=by
 have:=c.toNat_lt;rw[yo];omega
theorem qKH:∀ (c0:UInt8),∃ n,qPY n c0=qyD (z78 c0):=fun c=>⟨0,by
 unfold qPY qfg qas z78 qtq orI;cases decide (c < (32:UInt8)) <;> cases (c==(127:UInt8)) <;> cases (c==(32:UInt8)) <;> cases (c==(9:UInt8)) <;> cases decide ((48:UInt8)≤c) <;> cases decide (c≤(57:UInt8)) <;> cases decide ((65:UInt8)≤c) <;> cases decide (c≤(90:UInt8)) <;> cases decide ((97:UInt8)≤c) <;> cases decide (c≤(122:UInt8)) <;> rfl⟩
theorem qEp:∀ (s0:LU) (c1:UInt8),∃ n,qPZ n s0 c1=qyD (z142 s0 c1):=fun _ _=>⟨0,rfl⟩
theorem qEq:∀ (s0:LU) (c1:UInt8),∃ n,qQa n s0 c1=qyD (z108 s0 c1):=fun _ _=>⟨0,rfl⟩
theorem qKI:∀ (s0:LU) (c1:UInt8),∃ n,qSP n s0 c1=qga (z79 s0 c1):=fun _ _=>⟨0,rfl⟩
theorem qKJ:∀ (c0:UInt8),∃ n,qQb n c0=qyD (z55 c0):=fun c=>⟨0,by
 unfold qQb qcI qfh qbT z55 qGk orI;cases decide (c < (33:UInt8)) <;> cases decide ((126:UInt8) < c) <;> cases z79 [33,42,43,45,47] c <;> cases z79 [43,47] c <;> cases z79 [40,41,60,62,64,44,59,58,92,34,47,91,93,63,61] c <;> cases z79 [42,39,37] c <;> rfl⟩
theorem qKK:∀ (c0:UInt8) (kinds1:Int),∃ n,qSQ n c0 kinds1=qga (z35 c0 kinds1):=fun _ _=>⟨0,rfl⟩
theorem qHT (c:UInt8):c.toNat < 256:=c.toNat_lt
theorem qKL (cs:LU) (x:UInt8):∀ (a:List Bool),a.length=256→(setOf cs a).getD x.toNat false=(cs.contains x||a.getD x.toNat false):=by
 induction cs with
 | nil=>intro a _;simp[setOf]
 | cons c cs ih =>
  intro a hl;show (setOf cs (set a c.toNat true)).getD x.toNat false=_;rw[ih _ (by simpa using hl)];have hx:=qHT x;have hc:=qHT c
  by_cases e:c=x
  ·subst e;have:(set a c.toNat true).getD c.toNat false=true:=by simp[getD,hl,hc]
   rw[this];simp
  ·have hne:c.toNat≠x.toNat:=fun h=>e (UInt8.toNat_inj.1 h);have:(set a c.toNat true).getD x.toNat false=a.getD x.toNat false:=by simp[getD,List.getElem?_set_ne hne]
   rw[this];have hb:¬ x=c:=fun h=>e h.symm;simp[hb]
theorem dT {p:Prop} [Decidable p] (h:p):decide p=true:=yo h
theorem dF {p:Prop} [Decidable p] (h:¬ p):decide p=false:=yx h
theorem wr (h : -9223372036854775808≤x∧x≤9223372036854775807):wrap .i64 x=x:=IntWalk.i64_in x h
theorem tn (i:Nat):toNat (i:Int)=i:=Int.toNat_natCast i
theorem bneI (h:a≠b):(a==b)=false:=by simp[h]
theorem qe {α:Type} {l:List α} (h:l.length≤1048576):lenOk l=true:=by unfold lenOk;rw[ym];exact h
theorem qzG (p:UInt8→Bool) (t:LU) (x:UInt8):dropR p (t++[x])=bif p x then dropR p t else t++[x]:=by
 unfold dropR;rw[List.reverse_append,List.reverse_singleton,List.singleton_append,List.dropWhile_cons];cases p x <;> simp
theorem qeB (p:UInt8→Bool):∀ s:LU,(s.dropWhile p).length≤s.length
 | []=>by simp
 | c :: s=>by
  rw[List.dropWhile_cons];split
  ·have:=qeB p s;simp only[yg];omega
  ·exact yv _
theorem qzH (p:UInt8→Bool) (s:LU):(dropR p s).length≤s.length:=by
 have:=qeB p s.reverse;unfold dropR;simpa using this
theorem qss (p:UInt8→Bool) (s:LU):(qGl p s).length≤s.length:=yL (qeB p _) (qzH p s)
theorem qqc (cs:LU) (c:UInt8):z151 (z122 cs).1 c=cs.contains c:=by
 have:=qKL cs c (replicate 256 false) List.length_replicate;unfold z151 z122;have hc:c.toNat < 256:=c.toNat_lt;rw[this,yY,List.getElem?_replicate,if_pos hc];exact Bool.or_false _
theorem qQT (cs s:LU):z123 (z124 s (z122 cs).1) (z122 cs).1=z91 s cs:=by
 unfold z123 z124 z91 qGl;have e:(fun c=>z151 (z122 cs).1 c)=fun c=>cs.contains c:=funext fun c=>qqc cs c;rw[e]
theorem qQU (f:UInt8→UInt8) (s:LU) (i:Nat) (h:i < s.length):set (s.take i |>.map f |> fun l=>l++s.drop i) i (f (s.getD i 0))=(s.take (i+1)).map f++s.drop (i+1):=by
 have hg:=qx (d:=(0:UInt8)) h;have hl:((s.take i).map f).length=i:=by simp;omega
 rw[hg,List.set_append_right _ _ (by omega),hl,Nat.sub_self,List.set_cons_zero];rw[show s.take (i+1)=s.take i++[s.getD i 0] by
  rw[List.take_add_one];simp[getD,h]]
 simp
theorem qzI (p:UInt8→Bool) (s:LU):(((s.countP p:Nat):Int)==((s.length:Nat):Int))=s.all p:=by
 rw[Bool.eq_iff_iff];simp only[beq_iff_eq,List.all_eq_true];have:=List.countP_eq_length (p:=p) (l:=s);constructor
 ·intro h;exact this.1 (by omega)
 ·intro h;have:=this.2 h;omega
theorem qEr:(fun c:UInt8=>([32,9]:LU).contains c)=blank:=by
 funext c;unfold blank;simp only[List.contains_cons,List.contains_nil,Bool.or_false]
theorem qny {P:UInt8→Prop} (h:∀ i:Fin 256,P (ofNat i.val)) (c:UInt8):P c:=by
 have:=h ⟨c.toNat,c.toNat_lt⟩;simpa using this
theorem qHU (x:UInt8) (s:LU) (c:UInt8):Lib.indexByte (x :: s) c=if (x==c)=true then 0 else if (Lib.indexByte s c == -1)=true then -1 else Lib.indexByte s c+1:=rfl
theorem ib_lt:∀ (s:LU) (c:UInt8),Lib.indexByte s c < (s.length:Int)
 | [],c=>by show (-1:Int) < ((0:Nat):Int);omega
 | x :: s,c=>by
  have:=ib_lt s c;have hg:=Lib.indexByte_ge s c;rw[qHU];simp only[yg];split
  ·omega
  ·split <;> omega
theorem qzJ (c:UInt8):wrap .i64 ((UInt8.toNat c:Nat):Int)=((UInt8.toNat c:Nat):Int):=by
 have:=c.toNat_lt;exact IntWalk.i64_in _ (by omega)
theorem qqd:∀ i:Fin 256,0≤(z183 (ofNat i.val)).1∧(z183 (ofNat i.val)).1 < 16:=by decide +kernel
theorem qKM {P:UInt8→Prop} (h:∀ i:Fin 256,P (ofNat i.val)) (c:UInt8):P c:=by
 have:=h ⟨c.toNat,c.toNat_lt⟩;simpa using this
theorem qkc (c:UInt8):0≤(z183 c).1∧(z183 c).1 < 16:=qKM (P:=fun c=>0≤(z183 c).1∧(z183 c).1 < 16) qqd c
theorem qKN:∀ a b:Fin 16,ofNat (toNat (wrap .u8 (bits .or .i64 (wrap .i64 (((a.val:Nat):Int)*2 ^ (min (toNat (4:Int)) (IntKind.bits .i64)))) ((b.val:Nat):Int))))=ofNat (toNat (((a.val:Nat):Int)*16+((b.val:Nat):Int))):=by decide +kernel
theorem qKO {P:Int→Int→Prop} (h:∀ a b:Fin 16,P ((a.val:Nat):Int) ((b.val:Nat):Int)) {y:Int} (hx:0≤x∧x < 16) (hy:0≤y∧y < 16):P x y:=by
 have:=h ⟨x.toNat,by omega⟩ ⟨y.toNat,by omega⟩;simp only[Int.toNat_of_nonneg hx.1,Int.toNat_of_nonneg hy.1] at this;exact this
theorem quv (s:LU) (at1:Int) (hl:s.length≤1048576) (h0:¬ at1 < 0) (h1:¬ wrap .i64 (((List.length s:Nat):Int) - 3) < at1):∃ i:Nat,at1=i∧i+2 < s.length:=by
 rw[IntWalk.i64_in _ (by omega)] at h1;exact⟨at1.toNat,by omega,by omega⟩
theorem quw:∀ i:Fin 256,qau (wrap .i64 (Int.tdiv (wrap .i64 ((UInt8.toNat (ofNat i.val):Nat):Int)) (16:Int)))=true∧qau (Int.tmod (wrap .i64 ((UInt8.toNat (ofNat i.val):Nat):Int)) (16:Int))=true ∧
 qeh (wrap .i64 ((UInt8.toNat (ofNat (UInt8.toNat (ofNat i.val) / 2 ^ (min (toNat (4:Int)) 8))):Nat):Int))=true∧qeh (wrap .i64 ((UInt8.toNat (ofNat i.val):Nat):Int))=true:=by decide +kernel
theorem qST (c:UInt8):qau (wrap .i64 (Int.tdiv (wrap .i64 ((UInt8.toNat c:Nat):Int)) (16:Int)))=true∧qau (Int.tmod (wrap .i64 ((UInt8.toNat c:Nat):Int)) (16:Int))=true ∧
 qeh (wrap .i64 ((UInt8.toNat (ofNat (UInt8.toNat c / 2 ^ (min (toNat (4:Int)) 8))):Nat):Int))=true∧qeh (wrap .i64 ((UInt8.toNat c:Nat):Int))=true:=qKM (P:=fun c=>qau (wrap .i64 (Int.tdiv (wrap .i64 ((UInt8.toNat c:Nat):Int)) (16:Int)))=true∧qau (Int.tmod (wrap .i64 ((UInt8.toNat c:Nat):Int)) (16:Int))=true ∧
 qeh (wrap .i64 ((UInt8.toNat (ofNat (UInt8.toNat c / 2 ^ (min (toNat (4:Int)) 8))):Nat):Int))=true∧qeh (wrap .i64 ((UInt8.toNat c:Nat):Int))=true) quw c
theorem beqF (h:a≠b):(a==b)=false:=by simp[h]
theorem qcO {t:LI} {p:Int→Bool} {k0:OA} {ret:Int→OA} {L:Nat→Int→OA} (hl:t.length≤1048576)
 (hL:∀ n (i:Nat),i < t.length→L (n+1) (i:Int)=bif p (t.getD i 0) then L n ((i+1:Nat):Int) else ret (i:Int)) (hE:∀ n,L (n+1) (t.length:Nat)=k0) :
 ∀ d i n:Nat,i+d=t.length→d < n→L n (i:Int)=bif qai p (t.drop i) i == -1 then k0 else ret (qai p (t.drop i) i)
 | d,i,0,hi,hn=>by omega
 | 0,i,n+1,hi,hn=>by
  obtain rfl:i=t.length:=by omega
  rw[hE,yA (by omega)];rfl
 | d+1,i,n+1,hi,hn=>by
  have hlt:i < t.length:=by omega
  rw[hL n i hlt,qcO hl hL hE d (i+1) n (by omega) (by omega),qx (d:=(0:Int)) hlt];rw[show qai p (t.getD i 0 :: t.drop (i+1)) (i:Int)=bif p (t.getD i 0) then qai p (t.drop (i+1)) ((i+1:Nat):Int) else (i:Int) from rfl];cases p (t.getD i 0) with
  | true=>rfl
  | false =>
   have:((i:Int) == -1)=false:=by simp only[yB,ne_eq];omega
   simp[this]
theorem qEs:∀ (n0:Int),∃ n,qHj n n0=qrK (z157 n0):=fun c=>⟨0,by
 unfold qHj z157;cases (c==(2:Int)) <;> cases (c==(3:Int)) <;> cases (c==(4:Int)) <;> rfl⟩
theorem qEt:∃ n,qQk n  = qyZ z158:=⟨0,rfl⟩
theorem qEu:∃ n,qHp n  = qHn z159:=⟨0,rfl⟩
theorem qzK {α β:Type} (f:α→β) (t:List α) (z:β) (i:Nat) (h:i < t.length) (d:α) :
 ((t.take i).map f++replicate (t.length - i) z).set i (f (t.getD i d))=(t.take (i+1)).map f++replicate (t.length - (i+1)) z:=by
 rw[List.set_append_right _ _ (by simp;omega)];have h1:((t.take i).map f).length=i:=by simp;omega
 rw[h1,Nat.sub_self,show t.length - i=(t.length - (i+1))+1 by omega,List.replicate_succ,List.set_cons_zero,List.take_succ_eq_append_getElem h,List.map_append,yl];simp[getD,h]
theorem qqe (x:UInt8):wrap .i32 ((UInt8.toNat x:Nat):Int)=((UInt8.toNat x:Nat):Int):=IntWalk.i32_in _ (by have:=x.toNat_lt;omega)
theorem qeC {α β:Type} {t:List α} {dv:α} {f:α→List β} {q:α→Bool} {k0:List β→OA} {R:OA} {L:Nat→List β→Int→OA} {b:Nat} (hf:∀ x,(f x).length≤b)
 (hL:∀ (n i:Nat) (out:List β),i < t.length→out.length+b≤room→L (n+1) out (i:Int)=bif q (t.getD i dv) then L n (out++f (t.getD i dv)) ((i+1:Nat):Int) else R) (hE:∀ n out,L (n+1) out ((t.length:Nat):Int)=k0 out) :
 ∀ (d i n:Nat) (out:List β),i+d=t.length→d < n→out.length+b*d≤room→L n out (i:Int)=bif (t.drop i).all q then k0 (out++(t.drop i).flatMap f) else R
 | d,i,0,out,hi,hn,_=>by omega
 | 0,i,n+1,out,hi,hn,_=>by
  obtain rfl:i=t.length:=by omega
  rw[hE,yA (by omega)];simp
 | d+1,i,n+1,out,hi,hn,hb=>by
  have hlt:i < t.length:=by omega
  have hx:=hf (t.getD i dv);have hb':b*(d+1)=b*d+b:=by rw[Nat.mul_succ]
  have h0:0≤b*d:=Nat.zero_le _;rw[hL n i out hlt (by omega),qeC (α:=α) (β:=β) hf hL hE d (i+1) n _ (by omega) (by omega) (by rw[yn];omega),qx (d:=dv) hlt];simp only[List.all_cons,List.flatMap_cons,yl];cases q (t.getD i dv) <;> rfl
theorem qKP:∀ (charset0:Int),∃ n,qQf n charset0=qiy (z61 charset0):=fun cs=>⟨0,by
 unfold qQf z61;cases (cs==(1:Int)) <;> cases (cs==(2:Int)) <;> cases (cs==(3:Int)) <;> cases (cs==(4:Int)) <;> cases (cs==(5:Int)) <;> rfl⟩
theorem qgB {α β:Type} (f:α→β):∀ l:List α,l.flatMap (fun x=>[f x])=l.map f
 | []=>rfl
 | x :: r=>by rw[List.flatMap_cons,qgB f r];rfl
theorem qly {α:Type}:∀ l:List α,l.all (fun _=>true)=true
 | []=>rfl
 | _ :: r=>by rw[List.all_cons,qly r];rfl
theorem qst {s:LU} (h:i < s.length):s.drop i=s.getD i 0 :: s.drop (i+1):=by
 rw[List.drop_eq_getElem_cons h,yY,yO h];rfl
theorem qeg (c:UInt8):∀ s:LU,(bif decide ((0:Int)≤Lib.indexByte s c) then s.take (Lib.indexByte s c).toNat else s)=s.takeWhile fun x=>x != c
 | []=>rfl
 | x :: s=>by
  have ih:=qeg c s;have hg:=Lib.indexByte_ge s c;rw[qHU,List.takeWhile_cons]
  by_cases hx:x=c
  ·subst hx;simp
  ·have h1:(x==c)=false:=beq_eq_false_iff_ne.2 hx;have h2:(x != c)=true:=by rw[bne,h1];rfl
   rw[h1,h2];simp only[yq,if_false,if_true];rw[← ih]
   by_cases h3:Lib.indexByte s c = -1
   ·rw[h3];rfl
   ·have h4:(Lib.indexByte s c == -1)=false:=by simpa using h3
    rw[h4];simp only[yq,if_false];rw[dT (by omega),dT (by omega),yc,yc,show (Lib.indexByte s c+1).toNat=(Lib.indexByte s c).toNat+1 by omega,List.take_succ_cons]
theorem qsu (c:UInt8):qk c≤4:=by
 unfold qk;cases decide (c < 128) <;> cases decide (c < 194)||decide (244 < c) <;> cases decide (c < 224) <;> cases decide (c < 240) <;> decide
theorem qgC {p:Int→Bool} {t:LI} {k0:OA} {ret:Int→OA} {x:OA} (h:x=bif qai p (t.drop 0) (0:Nat) == -1 then k0 else ret (qai p (t.drop 0) (0:Nat))) (hk:k0=ret (-1)):x=ret (qai p t 0):=by
 rw[h,yw];cases e:(qai p t (0:Nat) == -1) with
 | true =>
  rw[beq_iff_eq] at e;have e':qai p t 0 = -1:=e;rw[e',hk];rfl
 | false=>rfl
theorem qnz (c:Int):z156 c=0∨z156 c=1∨z156 c=2∨z156 c=3∨z156 c=4:=by
 unfold z156;cases z129 c <;> cases decide (c < (128:Int)) <;> cases decide (c < (2048:Int)) <;> cases decide (c < (65536:Int)) <;> simp
theorem qbg {α β:Type} (g:α→β):∀ l:List α,l.flatMap (fun x=>[g x])=l.map g
 | []=>rfl
 | x :: r=>by rw[List.flatMap_cons,qbg g r];rfl
theorem qzL (c:Int):(z136 [] c).1.length≤4:=by
 unfold z136;rcases qnz c with e | e | e | e | e <;> rw[e] <;> simp
theorem qiY (k0:Int→OA) (s:LU) (k:Int) (hl:s.length≤1048576):∀ (d i n m:Nat),i+d=s.length→d < n→m+d≤1048576 →
 qnk k0 n k (m:Nat) s (s.length:Nat) (i:Nat)=k0 ((m+(s.drop i).countP (fun c=>z35 c k):Nat):Int)
 | d,i,0,m,hi,hn,hm=>by omega
 | 0,i,n+1,m,hi,hn,hm=>by
  show qgf k0 (qnk k0 n) n _ _ _ _ _=_;unfold qgf;rw[dF (by omega),yd,yA (by omega)];rfl
 | d+1,i,n+1,m,hi,hn,hm=>by
  show qgf k0 (qnk k0 n) n _ _ _ _ _=_;unfold qgf;have hlt:i < s.length:=by omega
  have ih:=qiY k0 s k hl d (i+1) n m (by omega) (by omega) (by omega);have ih2:=qiY k0 s k hl d (i+1) n (m+1) (by omega) (by omega) (by omega);rw[qx (d:=(0:UInt8)) hlt,List.countP_cons];simp (disch:=omega) only [dT,yc,yi,tn,ql];cases z35 (s.getD i 0) k with
  | true=>rw[yc,ih2];congr 2;simp;omega
  | false=>rw[yd,ih];congr 2
theorem qKQ:∀ (s0:LU) (kinds1:Int),(qGm s0 kinds1=true)→∃ n,qEa n s0 kinds1=qyD (z46 s0 kinds1):=fun s k h=>⟨s.length+1,by
 have hl:=qf h;unfold qEa;have:=qiY (qpP (s.length+1)) s k hl s.length 0 (s.length+1) 0 (by omega) (by omega) (by omega);refine Eq.trans this ?_;rw[yE,yw];rfl⟩
theorem qKR:∀ (s0:LU) (kinds1:Int),(qju s0 kinds1=true)→∃ n,qQp n s0 kinds1=qga (z31 s0 kinds1):=fun s k h=>⟨0,by
 unfold qQp;rw[show qGm s k=true from h];show qga (z46 s k==((s.length:Nat):Int))=_;unfold z46;rw[qzI];rfl⟩
theorem qzM:∀ i:Fin 256,(bif decide ((65:UInt8)≤ofNat i.val) then (bif decide (ofNat i.val≤(90:UInt8)) then ofNat i.val+32 else ofNat i.val) else ofNat i.val)=z30 (ofNat i.val):=by decide +kernel
theorem qKS:∀ (c0:UInt8),∃ n,qQu n c0=qrK (z17 c0):=fun c=>⟨0,by
 have h:=qny (P:=fun c=>(bif decide ((65:UInt8)≤c) then (bif decide (c≤(90:UInt8)) then c+32 else c) else c)=z30 c) qzM c;unfold qQu z17;rw[← h];cases decide ((65:UInt8)≤c) <;> cases decide (c≤(90:UInt8)) <;> rfl⟩
theorem qQV:∀ (s0:LU),(z8_ok s0=true)→∃ n,z8_sh n s0=qGY (z8 s0):=fun s h=>⟨s.length+1,by
 have hl:=qf h;unfold z8_sh;have:=qeC (t:=s) (dv:=0) (f:=fun c=>[z17 c]) (q:=fun _=>true) (b:=1) (k0:=qsi (s.length+1)) (R:=none)
  (L:=fun n out i=>z8_l3 (qsi (s.length+1)) n s out i) (fun x=>yv 1) (fun n i out hi hb=>by
   show qjT _ _ n _ _ _=_;unfold qjT;have hr:out.length+([z17 (s.getD i 0)]:LU).length≤room:=hb;simp (disch:=omega) only [dT,yc,yi,tn,ql];all_goals (rw[dT hr])
   all_goals rfl) (fun n out=>by
   show qjT _ _ n _ _ _=_;unfold qjT;rw[dF (by omega)];rfl) s.length 0 (s.length+1) [] (by omega) (by omega) (by show 0+_≤room;unfold room;omega)
 rw[yw,qly,yc,List.nil_append,qgB] at this;exact this⟩
theorem qcV (ret:List Bool→Bool→OA) (k0:List Bool→OA) (cs:LU) (ha:ascii cs=true) (hl:cs.length≤1048576):∀ (d i n:Nat) (a:List Bool),i+d=cs.length→d < n →
 qgO ret k0 n cs a (i:Nat)=k0 (setOf (cs.drop i) a)
 | d,i,0,a,hi,hn=>by omega
 | 0,i,n+1,a,hi,hn=>by
  show qdH ret k0 (qgO ret k0 n) n cs a _=_;unfold qdH;rw[yx (by omega),yd,yA (by omega)];rfl
 | d+1,i,n+1,a,hi,hn=>by
  show qdH ret k0 (qgO ret k0 n) n cs a _=_;unfold qdH;have hlt:i < cs.length:=by omega
  have hc:decide ((128:UInt8)≤getD cs i 0)=false:=by
   unfold ascii at ha;rw[List.all_eq_true] at ha;have:=ha (cs.getD i 0) (by simp[getD,hlt]);rw[decide_eq_false_iff_not];simp only[ym] at this;exact UInt8.not_le.2 this
  rw[qlT,yo hlt,yc,qaK,y6,yc,qbR,hc,yd,qaK,qnx,y6,yc,ql (by omega),
   qcV ret k0 cs ha hl d (i+1) n _ (by omega) (by omega),qx (d:=0) hlt]
  rfl
theorem qEv:∀ (chars0:LU),(qjh chars0=true)→∃ n,qyO n chars0=qiz (z122 chars0).1 (z122 chars0).2:=fun cs h=>⟨cs.length+1,by
 unfold qjh at h;rw[yf] at h;exact qcV qiz (qlj (cs.length+1)) cs h.1 (qf h.2) cs.length 0 (cs.length+1) _ (by omega) (by omega)⟩
theorem qEw:∀ (as0:List Bool) (c1:UInt8),∃ n,qHd n as0 c1=qga (z151 as0 c1):=fun as c=>⟨0,by
 unfold qHd;rw[qaK,qnx];rfl⟩
theorem qEx:∀ (s0:LU) (c1:UInt8),(qAP s0 c1=true)→∃ n,qyL n s0 c1=qpG (z120 s0 c1):=fun _ _ h=>by cases h
theorem qEy:∀ (s0:LU) (c1:UInt8),(qAQ s0 c1=true)→∃ n,qyN n s0 c1=qpG (z121 s0 c1):=fun _ _ h=>by cases h
theorem qnA (k0:LU→OA) (as:List Bool):∀ (d:Nat) (s:LU) (n:Nat),s.length=d→d < n→s.length≤1048576 →
 qiB k0 n s as=k0 (z124 s as)
 | d,s,0,hd,hn,hl=>by omega
 | d,s,n+1,hd,hn,hl=>by
  show qhx k0 (qiB k0 n) n s as=_;unfold qhx qaD z124;rcases List.eq_nil_or_concat s with rfl | ⟨t,x,rfl⟩
  ·rfl
  ·rw[List.concat_eq_append] at *
   have hlen:(t++[x]).length=t.length+1:=by simp
   have ih:=qnA k0 as t.length t n rfl (by omega) (by omega);have hg:(t++[x]).getD (toNat (((t++[x]).length:Int) - 1)) 0=x:=by
    rw[show toNat (((t++[x]).length:Int) - 1)=t.length by omega];simp
   have ht:take (toNat (((t++[x]).length:Int) - 1)) (t++[x])=t:=by
    rw[show toNat (((t++[x]).length:Int) - 1)=t.length by omega];simp
   simp (disch:=omega) only [wr,dT,yc,yi,hg,ht,qzG];cases z151 as x with
   | true=>simpa [z124] using ih
   | false=>rfl
theorem qEz:∀ (s0:LU) (as1:List Bool),(qnV s0 as1=true)→∃ n,qrT n s0 as1=qpG (z124 s0 as1):=fun s as h=>⟨s.length+1,by
 unfold qrT;rw[qnA _ as s.length s _ rfl (by omega) (qf h)];rfl⟩
theorem qnB (k0:LU→OA) (as:List Bool):∀ (d:Nat) (s:LU) (n:Nat),s.length=d→d < n→s.length≤1048576 →
 qiA k0 n s as=k0 (z123 s as)
 | d,s,0,hd,hn,hl=>by omega
 | d,[],n+1,hd,hn,hl=>rfl
 | d,x :: s,n+1,hd,hn,hl=>by
  show qhw k0 (qiA k0 n) n (x :: s) as=_;unfold qhw z123;have hlen:(x :: s).length=s.length+1:=rfl;have ih:=qnB k0 as s.length s n rfl (by omega) (by omega);have hg:(x :: s).getD (toNat 0) 0=x:=rfl;have ht:List.drop (toNat 1) (take (toNat ((x :: s).length:Int)) (x :: s))=s:=by
   rw[tn,List.take_length];rfl
  simp (disch:=omega) only [dT,yc,yi,hg,ht,List.dropWhile_cons];cases z151 as x with
  | true=>simpa [z123] using ih
  | false=>rfl
theorem qEA:∀ (s0:LU) (as1:List Bool),(qnU s0 as1=true)→∃ n,qrR n s0 as1=qpG (z123 s0 as1):=fun s as h=>⟨s.length+1,by
 unfold qrR;rw[qnB _ as s.length s _ rfl (by omega) (qf h)];unfold qlk;cases hc:z123 s as with
 | nil=>rfl
 | cons x r=>rfl⟩
theorem qKT:∀ (s0:LU) (cutset1:LU),(quR s0 cutset1=true)→∃ n,qKz n s0 cutset1=qpG (z91 s0 cutset1):=fun s cs h=>⟨0,by
 unfold quR at h;simp only[yf,ym] at h;obtain⟨h1,h2,h3,h4⟩:=h;have hls:=qf h1;unfold qKz qhy qcJ;cases s with
 | nil=>rfl
 | cons x r =>
  have hcs:(cs==([]:LU))=false:=by cases cs with
   | nil=>simp at h2
   | cons a b=>rfl
  have hlen:(x :: r).length=r.length+1:=rfl;have hm:qjh cs=true:=by unfold qjh;rw[h3,h4];rfl
  have hr:qnU (z124 (x :: r) (z122 cs).1) (z122 cs).1=true:=qe (yL (qzH _ _) hls);rw[bneI (by omega),hcs,bneI (by omega),hm,show (z122 cs).2=true from rfl,show qnV (x :: r) (z122 cs).1=true from h1,hr,qQT];rfl⟩
theorem qKU:∀ (c0:UInt8),∃ n,qPW n c0=qrK (z30 c0):=fun c=>⟨0,by
 unfold qPW z30;cases decide ((65:UInt8)≤c) <;> cases decide (c≤(90:UInt8)) <;> rfl⟩
theorem qsv (k0:LU→OA) (s:LU) (hl:s.length≤1048576):∀ (d i n:Nat),i+d=s.length→d < n →
 qnc k0 n ((s.take i).map z30++s.drop i) (s.length:Nat) (i:Nat)=k0 (s.map z30)
 | d,i,0,hi,hn=>by omega
 | 0,i,n+1,hi,hn=>by
  show qge k0 (qnc k0 n) n _ _ _=_;unfold qge;rw[dF (by omega),yd,show i=s.length by omega,List.take_length,List.drop_length,yG]
 | d+1,i,n+1,hi,hn=>by
  show qge k0 (qnc k0 n) n _ _ _=_;unfold qge;have hlt:i < s.length:=by omega
  have ih:=qsv k0 s hl d (i+1) n (by omega) (by omega);have hlen:((s.take i).map z30++s.drop i).length=s.length:=by simp;omega
  have hg:((s.take i).map z30++s.drop i).getD i 0=s.getD i 0:=by
   rw[qx (d:=(0:UInt8)) hlt];simp[getD,Nat.min_eq_left (Nat.le_of_lt hlt)]
  have hs:=qQU z30 s i hlt;simp only at hs;simp (disch:=omega) only [dT,yc,yi,tn,ql,hlen,hg];rw[hs];exact ih
theorem qKV:∀ (s0:LU),(qeE s0=true)→∃ n,qDY n s0=qGY (z37 s0):=fun s h=>⟨s.length+1,by
 unfold qDY;rw[show qaH s=true from h,show z20 s=s from rfl];exact qsv (qpE (s.length+1)) s (qf h) s.length 0 (s.length+1) (by omega) (by omega)⟩
theorem qKW:∀ (a0:LU) (b1:LU),∃ n,qSR n a0 b1=qga (z60 a0 b1):=fun _ _=>⟨0,rfl⟩
theorem qKX:∀ (s0:LU),(quS s0=true)→∃ n,qQg n s0=qGY (z63 s0):=fun s h=>⟨0,by
 have hl:=qf h;have h1:quR s [32,9]=true:=by unfold quR;rw[show lenOk s=true from h];rfl
 have e:z91 s [32,9]=z63 s:=by unfold z91 z63;rw[qEr]
 unfold qQg;rw[h1,e,show qaH (z63 s)=true from qe (yL (qss _ _) hl)];rfl⟩
theorem qEB:∀ (c0:UInt8),∃ n,qHg n c0=qrL (z183 c0).1 (z183 c0).2:=fun c=>⟨0,by
 unfold qHg z183;have h:=(z30 c - 97).toNat_lt;rw[qzJ,qzJ,IntWalk.i64_in (((z30 c - 97).toNat:Int)+10) (by omega)];cases z35 (z30 c) 8 <;> cases decide ((97:UInt8)≤z30 c) <;> cases decide (z30 c≤(102:UInt8)) <;> rfl⟩
theorem qEC:∀ (a0:UInt8) (b1:UInt8),∃ n,qHh n a0 b1=qll (z176 a0 b1).1 (z176 a0 b1).2:=fun a b=>⟨0,by
 unfold qHh z176;have h:=qKO (P:=fun x y=>ofNat (toNat (wrap .u8 (bits .or .i64 (wrap .i64 (x*2 ^ (min (toNat (4:Int)) (IntKind.bits .i64)))) y)))=ofNat (toNat (x*16+y))) qKN (qkc a) (qkc b);rw[← h];cases (z183 a).2 <;> cases (z183 b).2 <;> rfl⟩
theorem qED:∀ (s0:LU) (at1:Int) (sign2:UInt8),(qsY s0 at1 sign2=true)→∃ n,qHi n s0 at1 sign2=qll (z166 s0 at1 sign2).1 (z166 s0 at1 sign2).2:=fun s at1 sign h=>⟨0,by
 have hl:=qf h;unfold qHi qiE z166
 by_cases h0:at1 < 0
 ·rw[yo h0,yx (show ¬ 0≤at1 by omega)];rfl
 by_cases h1:wrap .i64 (((List.length s:Nat):Int) - 3) < at1
 ·have h2:¬ at1≤(s.length:Int) - 3:=by rw[IntWalk.i64_in _ (by omega)] at h1;omega
  rw[yx h0,yo h1,yx h2,y4];rfl
 obtain⟨i,rfl,hi⟩:=quv s at1 hl h0 h1;rw[yx h0,yx h1,yd,yd,qaK,qlT,yo (show i < s.length by omega),yi,yc,qbR,ql (by omega),
  show wrap .i64 ((i:Int)+2)=((i+2:Nat):Int) by rw[IntWalk.i64_in _ (by omega)];omega,qaK,qaK,qlT,qlT,yo (show i+1 < s.length by omega),yo hi,qbR,qbR,
  yo (show (i:Int)≤(s.length:Int) - 3 by omega),yi,yc]
 unfold qAN;cases he:(getD s i 0==sign) with
 | true=>rw[show (getD s i 0 != sign)=false by simp only[bne,he,Bool.not_true]];rfl
 | false=>rw[show (getD s i 0 != sign)=true by simp only[bne,he,Bool.not_false]];rfl⟩
theorem qEE:∀ (s0:LU) (suffix1:LU),(qtn s0 suffix1=true)→∃ n,qHs n s0 suffix1=qga (z150 s0 suffix1):=fun s t h=>⟨0,by
 have hl:=qf h;unfold qHs z150
 by_cases hc:t.length≤s.length
 ·have e:wrap .i64 ((s.length:Int) - (t.length:Int))=((s.length - t.length:Nat):Int):=by rw[IntWalk.i64_in _ (by omega)];omega
  rw[e,tn,tn,List.take_length,dT hc];simp (disch:=omega) only [dT,yc,yi];rfl
 ·rw[dF hc,dF (by omega)];rfl⟩
theorem qKY:∀ (b0:LU) (c1:UInt8),∃ n,qSS n b0 c1=qyD (z62 b0 c1):=fun _ _=>⟨0,rfl⟩
theorem qsw (m:Nat) (s:LU) (hl:s.length≤1048576):∀ (d i n:Nat),i+d=s.length→d < n →
 qjJ (qlm m) n ((s.take i).map (fun c:UInt8=>(c.toNat:Int))++replicate (s.length - i) 0) s (s.length:Nat) (i:Nat)=qpK (s.map fun c:UInt8=>(c.toNat:Int))
 | d,i,0,hi,hn=>by omega
 | 0,i,n+1,hi,hn=>by
  obtain rfl:i=s.length:=by omega
  show qdI _ _ n _ _ _ _=_;unfold qdI;rw[dF (by omega),Nat.sub_self,List.take_length];simp only[yd,List.replicate_zero,yG];rfl
 | d+1,i,n+1,hi,hn=>by
  show qdI _ _ n _ _ _ _=_;unfold qdI;have hlen:((s.take i).map (fun c:UInt8=>(c.toNat:Int))++replicate (s.length - i) (0:Int)).length=s.length:=by
   rw[yn,yP,yz,List.length_replicate];omega
  rw[hlen];simp (disch:=omega) only [dT,yc,yi,tn,ql];rw[qqe,qzK (fun c:UInt8=>((UInt8.toNat c:Nat):Int)) s 0 i (by omega) 0];exact qsw m s hl d (i+1) n (by omega) (by omega)
theorem qEF:∀ (s0:LU),(qkp s0=true)→∃ n,qrY n s0=qpK (z114 s0):=fun s h=>⟨s.length+1,by
 have hl:=qf h;unfold qrY;have hr:((s.length:Nat):Int)≤(room:Int):=by unfold room;omega
 simp (disch:=omega) only [dT,yc,yi,tn];have:=qsw (s.length+1) s hl s.length 0 (s.length+1) (by omega) (by omega);exact this⟩
theorem qEG:∀ (c0:Int),∃ n,qHo n c0=qpL (z146 c0):=fun c=>⟨0,by
 unfold qHo z146;cases decide (128≤c) <;> rfl⟩
theorem qnC (m:Nat) (t:LI) (hl:t.length≤1048576):∀ (d i n:Nat),i+d=t.length→d < n →
 qjK (qln m) n ((t.take i).map z146++t.drop i) (t.length:Nat) (i:Nat)=qpK (t.map z146)
 | d,i,0,hi,hn=>by omega
 | 0,i,n+1,hi,hn=>by
  obtain rfl:i=t.length:=by omega
  show qdJ _ _ n _ _ _=_;unfold qdJ;rw[dF (by omega),List.drop_length,List.take_length,yG];rfl
 | d+1,i,n+1,hi,hn=>by
  show qdJ _ _ n _ _ _=_;unfold qdJ;have hlt:i < t.length:=by omega
  have hml:((t.take i).map z146).length=i:=by rw[yP,yz];omega
  have hlen:((t.take i).map z146++t.drop i).length=t.length:=by
   rw[yn,hml,yK];omega
  rw[hlen];simp (disch:=omega) only [dT,yc,yi,tn,ql];have hg:((t.take i).map z146++t.drop i).getD i 0=t[i]:=by
   rw[yY,yN (by omega),hml,Nat.sub_self,List.getElem?_drop,Nat.add_zero,yO hlt];rfl
  have hs:((t.take i).map z146++t.drop i).set i (z146 t[i])=(t.take (i+1)).map z146++t.drop (i+1):=by
   rw[List.set_append_right _ _ (by omega),hml,Nat.sub_self,List.drop_eq_getElem_cons hlt,List.set_cons_zero,List.take_succ_eq_append_getElem hlt,List.map_append,yl];rfl
  rw[hg,hs];exact qnC m t hl d (i+1) n (by omega) (by omega)
theorem qEH:∀ (s0:LU),(qtm s0=true)→∃ n,qrZ n s0=qpK (z111 s0):=fun s h=>⟨s.length+1,by
 have hl:=qf h;unfold qrZ;rw[show qkp s=true from h];have hlen:(z114 s).length=s.length:=by unfold z114;rw[yP]
 have:=qnC (s.length+1) (z114 s) (by omega) s.length 0 (s.length+1) (by omega) (by omega);have e:(z114 s).map z146=z111 s:=by
  unfold z114 z111;rw[List.map_map];rfl
 rw[e] at this;exact this⟩
theorem qEI:∀ (x0:UInt8),∃ n,qsc n x0=qpL (z147 x0):=fun x=>⟨9,by
 have e:qsc 9 x=bif (164:UInt8)==x then qpL 8364 else bif (166:UInt8)==x then qpL 352 else bif (168:UInt8)==x then qpL 353 else bif (180:UInt8)==x then qpL 381
  else bif (184:UInt8)==x then qpL 382 else bif (188:UInt8)==x then qpL 338 else bif (189:UInt8)==x then qpL 339 else bif (190:UInt8)==x then qpL 376 else qpL (wrap .i32 ((UInt8.toNat x:Nat):Int)):=by rfl
 rw[e,qqe];unfold z147 qcw;have hc:∀ k:UInt8,(k==x)=(x==k):=fun k=>by
  cases h:x==k with
  | true=>rw[beq_iff_eq] at h;subst h;simp
  | false=>rw[yB] at h ⊢;exact fun e=>h e.symm
 simp only[hc];cases (x==(164:UInt8)) <;> cases (x==(166:UInt8)) <;> cases (x==(168:UInt8)) <;> cases (x==(180:UInt8)) <;> cases (x==(184:UInt8)) <;> cases (x==(188:UInt8)) <;> cases (x==(189:UInt8)) <;> cases (x==(190:UInt8)) <;> rfl⟩
theorem qEJ:∀ (s0:LU),(qtk s0=true)→∃ n,qsd n s0=qpK (z112 s0):=fun s h=>⟨s.length+1,by
 have hl:=qf h;unfold qsd;have:=qeC (t:=s) (dv:=0) (f:=fun c=>[z147 c]) (q:=fun _=>true) (b:=1) (k0:=qhz (s.length+1)) (R:=none)
  (L:=fun n out i=>qjL (qhz (s.length+1)) n out s (s.length:Nat) i) (fun x=>yv 1) (fun n i out hi hb=>by
   show qdK _ _ n _ _ _ _=_;unfold qdK;have hr:out.length+([z147 (s.getD i 0)]:LI).length≤room:=hb;simp (disch:=omega) only [dT,yc,yi,tn,ql];all_goals (rw[dT hr])
   all_goals rfl) (fun n out=>by
   show qdK _ _ n _ _ _ _=_;unfold qdK;rw[dF (by omega)];rfl) s.length 0 (s.length+1) [] (by omega) (by omega) (by show 0+_≤room;unfold room;omega)
 rw[yw,qly,yc,List.nil_append,qgB] at this;exact this⟩
theorem qEK:∀ (s0:LU),(qtl s0=true)→∃ n,qse n s0=qpK (z113 s0):=fun s h=>⟨s.length+1,by
 have hl:=qf h;unfold qse;have hr:((s.length:Nat):Int)≤(room:Int):=by unfold room;omega
 have:=qeC (t:=s) (dv:=0) (f:=fun c=>[z148 c]) (q:=fun _=>true) (b:=1) (k0:=qhA (s.length+1)) (R:=none)
  (L:=fun n out i=>qjM (qhA (s.length+1)) n out s (s.length:Nat) i) (fun x=>yv 1) (fun n i out hi hb=>by
   show qdL _ _ n _ _ _ _=_;unfold qdL;have hr:out.length+([z148 (s.getD i 0)]:LI).length≤room:=hb;simp (disch:=omega) only [dT,yc,yi,tn,ql];all_goals (rw[dT hr])
   all_goals rfl) (fun n out=>by
   show qdL _ _ n _ _ _ _=_;unfold qdL;rw[dF (by omega)];rfl) s.length 0 (s.length+1) [] (by omega) (by omega) (by show 0+_≤room;unfold room;omega)
 rw[yw,qly,yc,List.nil_append,qgB] at this;simp (disch:=omega) only [dT,yc,yi];exact this⟩
theorem qKZ:∀ (charset0:Int) (s1:LU),(qGf charset0 s1=true)→∃ n,qQl n charset0 s1=qHn (z84 charset0 s1):=fun cs s h=>⟨0,by
 have h':lenOk s=true:=h;unfold qQl z84;rw[show qtm s=true from h',show qtk s=true from h',show qtl s=true from h',show quQ s=true from h',show qkp s=true from h'];cases (cs==(1:Int)) <;> cases (cs==(3:Int)) <;> cases (cs==(4:Int)) <;> cases (cs==(5:Int)) <;> rfl⟩
theorem qLa:∃ n,qKy n  = qHb (z44 ):=⟨10,by kernel_rfl⟩
theorem qLb:∀ (s0:LU),(qGg s0=true)→∃ n,qQh n s0=qGY (z45 s0):=fun s h=>⟨0,by
 have hl:=qf h;have ht:=qeg 42 s;have hlt:=ib_lt s 42;unfold qQh z45;rw[← ht]
 by_cases hi:(0:Int)≤Lib.indexByte s 42
 ·rw[show decide ((0:Int)≤z62 s 42)=true from dT hi,dT hi,yc,yc];rw[show z62 s 42=Lib.indexByte s 42 from rfl,dT (show (0:Int)≤((0:Nat):Int) by omega),dT (show ((0:Nat):Int)≤Lib.indexByte s 42 by omega),dT (show Lib.indexByte s 42≤((s.length:Nat):Int) by omega)];have hk:quS (List.drop (toNat ((0:Nat):Int)) (take (toNat (Lib.indexByte s 42)) s))=true:=qe (by rw[tn,yw,yz];omega);rw[hk];rfl
 ·rw[show decide ((0:Int)≤z62 s 42)=false from dF hi,dF hi,yd,yd,show quS s=true from h];rfl⟩
theorem qEL:∀ (c0:UInt8),∃ n,qHk n c0=qyD (z168 c0):=fun c=>⟨0,by
 unfold qHk z168 qk;cases decide (c < 128) <;> cases decide (c < 194) <;> cases decide (244 < c) <;> cases decide (c < 224) <;> cases decide (c < 240) <;> rfl⟩
theorem qEM:∀ (first0:UInt8) (c1:UInt8),∃ n,qHm n first0 c1=qga (z178 first0 c1):=fun f c=>⟨0,by
 unfold qHm z178;cases (f==224) <;> cases (f==237) <;> cases (f==240) <;> cases (f==244) <;> cases decide (160≤c) <;> cases decide (c < 160) <;> cases decide (144≤c) <;> cases decide (c < 144) <;> rfl⟩
theorem qzN (m:Nat) (x:UInt8) (r:LU) (hl:r.length≤1048576):∀ (d i n:Nat),qk x=i+d→1≤i→i≤r.length+1→d < n →
 qiH qyD (qaP m) n (x :: r) (i:Nat)=qyD ((i+runB x d (i==1) (r.drop (i - 1)):Nat):Int)
 | d,i,0,_,_,_,hn=>by omega
 | 0,i,n+1,hs,hi,hr,hn=>by
  show qbV _ _ _ n _ _=_;unfold qbV;have e0:z168 (getD (x :: r) (toNat 0) 0)=((qk x:Nat):Int):=rfl;have h0:decide ((0:Int) < (((x :: r).length:Nat):Int))=true:=dT (by simp only[yg];omega);rw[e0,h0,dF (show ¬ ((i:Nat):Int) < ((qk x:Nat):Int) by omega)];have hr0:runB x 0 (i==1) (r.drop (i - 1))=0:=by cases r.drop (i - 1) <;> rfl
  rw[hr0];show qaP m (x :: r) ((i:Nat):Int)=_;unfold qaP;rw[e0,h0];show qyD (bif decide (((qk x:Nat):Int) < ((i:Nat):Int)) then _ else _)=_;rw[dF (by omega)];rfl
 | d+1,i,n+1,hs,hi,hr,hn=>by
  show qbV _ _ _ n _ _=_;unfold qbV;have e0:z168 (getD (x :: r) (toNat 0) 0)=((qk x:Nat):Int):=rfl;have h0:decide ((0:Int) < (((x :: r).length:Nat):Int))=true:=dT (by simp only[yg];omega);rw[e0,h0,dT (show ((i:Nat):Int) < ((qk x:Nat):Int) by omega)];simp only[yc,yi,show decide ((0:Int)≤0)=true from rfl]
  by_cases hlt:i < (x :: r).length
  ·have hlt':i - 1 < r.length:=by simp only[yg] at hlt;omega
   obtain⟨y,hy⟩:∃ y,r.getD (i - 1) 0=y:=⟨_,rfl⟩;have hg:(x :: r).getD i 0=y:=by
    obtain⟨k,rfl⟩:∃ k,i=k+1:=⟨i - 1,by omega⟩;exact hy
   have hdr:r.drop (i - 1)=y :: r.drop i:=by
    have:=qst hlt';rw[this,hy,show i - 1+1=i by omega]
   rw[dT (show ((i:Nat):Int) < (((x :: r).length:Nat):Int) by omega),dT (show (0:Int)≤((i:Nat):Int) by omega),tn,hg,hdr];simp only[yc,yi];have hrun:runB x (d+1) (i==1) (y :: r.drop i)=bif z177 y&&(!(i==1)||z178 x y) then runB x d false (r.drop i)+1 else 0:=rfl
   have ih:=qzN m x r hl d (i+1) n (by omega) (by omega) (by simp only[yg] at hlt;omega) (by omega);rw[show i+1 - 1=i by omega,show (i+1==1)=false by simp;omega] at ih;rw[hrun];cases hf:z177 y with
   | false=>simp only[Bool.not_false,yc,y5,yd,Nat.add_zero]
   | true =>
    simp only[Bool.not_true,yd,y6];have hfin:qiH qyD (qaP m) n (x :: r) (wrap .i64 (((i:Nat):Int)+1))=qyD ((i+(runB x d false (r.drop i)+1):Nat):Int):=by
     rw[ql (by omega),ih,show i+1+runB x d false (r.drop i)=i+(runB x d false (r.drop i)+1) by omega]
    by_cases h1:i=1
    ·subst h1;rw[show (((1:Nat):Int)==1)=true from rfl,show ((1:Nat)==1)=true from rfl,yc,dT (show (1:Int) < (((x :: r).length:Nat):Int) by omega)];simp only[show decide ((0:Int)≤1)=true from rfl,yi,yc];have e1:getD (x :: r) (toNat 1) 0=y:=hg;have e2:getD (x :: r) (toNat 0) 0=x:=rfl;rw[e1,e2];cases hs2:z178 x y with
     | false=>rfl
     | true =>
      simp only[Bool.not_true,yd,Bool.false_or,yc];exact hfin
    ·rw[show (((i:Nat):Int)==1)=false by simp;omega,show (i==1)=false by simpa using h1];simp only[yd,Bool.not_false,Bool.true_or,yc];exact hfin
  ·have hi2:i=r.length+1:=by simp only[yg] at hlt;omega
   rw[dF (show ¬ ((i:Nat):Int) < (((x :: r).length:Nat):Int) by omega),yd,yA (by omega)];show qaP m (x :: r) ((i:Nat):Int)=qyD ((i+0:Nat):Int);unfold qaP;rw[e0,h0];show qyD (bif decide (((qk x:Nat):Int) < ((i:Nat):Int)) then _ else _)=_;rw[dF (by omega)];rfl
theorem qEN:∀ (s0:LU),(qko s0=true)→∃ n,qrW n s0=qyD (z167 s0):=fun s h=>⟨6,by
 unfold qko at h;rw[yf] at h;have hl:=qf h.1;match s,h.2 with
 | x :: r,_ =>
  simp only[yg] at hl;have h4:=qsu x;have ef:z167 (x :: r)=((bif qk x==0 then 0 else 1+runB x (qk x - 1) true r:Nat):Int):=rfl;unfold qrW;rw[ef]
  by_cases h0:qk x=0
  ·rw[show (qk x==0)=true by simpa using h0,yc];have e0:z168 (getD (x :: r) (toNat 0) 0)=((qk x:Nat):Int):=rfl;have h0':decide ((0:Int) < (((x :: r).length:Nat):Int))=true:=dT (by simp only[yg];omega);show qbV qyD (qaP 6) _ 5 (x :: r) 1=_;unfold qbV;rw[e0,h0',dF (show ¬ (1:Int) < ((qk x:Nat):Int) by omega)];show qaP 6 (x :: r) 1=_;unfold qaP;rw[e0,h0'];show qyD (bif decide (((qk x:Nat):Int) < (1:Int)) then ((qk x:Nat):Int) else _)=_;rw[dT (by omega),h0];rfl
  ·rw[show (qk x==0)=false by simpa using h0,yd];have:=qzN 6 x r (by omega) (qk x - 1) 1 6 (by omega) (yv 1) (by omega) (by omega);rw[show (1:Nat) - 1=0 from rfl,yw] at this;exact this⟩
theorem qEO:∀ (c0:Int) (e1:Int) (x2:LI),(qto c0 e1 x2=true)→∃ n,qyX n c0 e1 x2=qpJ (z116 c0 e1 x2):=fun c e t h=>⟨0,by
 have hl:t.length≤2097152:=of_decide_eq_true h;unfold qyX z116;have hr:∀ y:Int,t.length+([y]:LI).length≤room:=fun y=>by show t.length+1≤room;unfold room;omega
 rw[dT (hr 65533),dT (hr c)];cases (e != 0) <;> rfl⟩
theorem qLc:∀ (s0:LU),(quQ s0=true)→∃ n,qKB n s0=qHn (z85 s0):=fun s h=>⟨0,by
 unfold qKB;have hok:qcx s []=true:=by unfold qcx;rw[show lenOk s=true from h];rfl
 first
  | (rw[hok];rfl)
  | rfl⟩
theorem qzO (ret:Bool→OA) (a b:LI) (hab:a.length=b.length) (hl:a.length≤1048576):∀ (d i n:Nat),i+d=a.length→d < n →
 qnu ret (ret true) n a b (i:Nat)=ret (decide (a.drop i=b.drop i))
 | d,i,0,hi,hn=>by omega
 | 0,i,n+1,hi,hn=>by
  show qgx ret (ret true) (qnu ret (ret true) n) n a b _=_;unfold qgx;rw[yx (by omega),yd,yA (by omega),yA (by omega)];rfl
 | d+1,i,n+1,hi,hn=>by
  show qgx ret (ret true) (qnu ret (ret true) n) n a b _=_;unfold qgx;have hlt:i < a.length:=by omega
  have hlt':i < b.length:=by omega
  have ih:=qzO ret a b hab hl d (i+1) n (by omega) (by omega);simp (disch:=omega) only [dT,yc,yi,tn,ql];rw[ih,qsr hlt hlt' 0];cases (a.getD i 0 != b.getD i 0) <;> rfl
theorem qLd:∀ (a0:LI) (b1:LI),(qGj a0 b1=true)→∃ n,qEn n a0 b1=qga (z26 a0 b1):=fun a b h=>⟨a.length+1,by
 unfold qEn z26
 by_cases hab:a.length=b.length
 ·rw[show (((a.length:Nat):Int) != ((b.length:Nat):Int))=false by simp[hab],yd];exact qzO qga a b hab (qf h) a.length 0 (a.length+1) (by omega) (by omega)
 ·rw[show (((a.length:Nat):Int) != ((b.length:Nat):Int))=true by simp only[bne_iff_ne,ne_eq];omega,yc,yx (fun e=>hab (by rw[e]))]⟩
theorem qEP:∀ (s0:LU) (sep1:LU),(qgY s0 sep1=true)→∃ n,qHf n s0 sep1=qpI (z109 s0 sep1).1 (z109 s0 sep1).2.1 (z109 s0 sep1).2.2:=fun s sep h=>⟨0,by
 have h0:=h;unfold qgY at h;rw[yf] at h;have hl:=qf h.1;have hl2:=qf (yf _ _ ▸ h.2).1;unfold qHf z109 z143;rw[show qnT s sep=true from h0]
 by_cases h1:0≤Lib.index s sep
 ·have hr:=Lib.index_room s sep h1;have e:wrap .i64 (Lib.index s sep+((sep.length:Nat):Int))=Lib.index s sep+((sep.length:Nat):Int):=IntWalk.i64_in _ (by omega);rw[e,yo h1,yo (show (0:Int)≤((0:Nat):Int) by omega),yo (show ((0:Nat):Int)≤Lib.index s sep by omega),yo (show Lib.index s sep≤((s.length:Nat):Int) by omega),
   yo (show (0:Int)≤Lib.index s sep+((sep.length:Nat):Int) by omega),yo (show Lib.index s sep+((sep.length:Nat):Int)≤((s.length:Nat):Int) by omega),yo (Int.le_refl ((s.length:Nat):Int)),qbR,qbR,List.take_length,
   show toNat (Lib.index s sep+((sep.length:Nat):Int))=(Lib.index s sep).toNat+sep.length by omega]
  rfl
 ·rw[yx h1];rfl⟩
theorem qLe:∀ (a0:LU) (b1:LU),(qAT a0 b1=true)→∃ n,qQe n a0 b1=qga (z42 a0 b1):=fun a b h=>⟨0,by
 unfold qAT at h;simp only[yf] at h;unfold qQe;rw[show qeE a=true from h.1,show qeE b=true from h.2];rfl⟩
theorem qEQ:∀ (s0:LU) (suffix1:LU),(qtr s0 suffix1=true)→∃ n,qHt n s0 suffix1=qpR (z118 s0 suffix1).1 (z118 s0 suffix1).2:=fun s t h=>⟨0,by
 have hl:=qf h;unfold qHt z118;rw[show qtn s t=true from h]
 by_cases hc:t.length≤s.length
 ·have e:wrap .i64 ((s.length:Int) - (t.length:Int))=((s.length - t.length:Nat):Int):=by rw[IntWalk.i64_in _ (by omega)];omega
  rw[e,tn];simp (disch:=omega) only [dT,yc,yi];cases z150 s t <;> rfl
 ·have e:z150 s t=false:=by unfold z150;rw[dF hc];rfl
  rw[e];rfl⟩
def qLf (x:UInt8):Bool:=decide (x < 128)||(decide (160≤x)||((decide ((0:Int)≤((UInt8.toNat (x - (128:UInt8)):Nat):Int)))&&(decide (((UInt8.toNat (x - (128:UInt8)):Nat):Int) < (List.length z159:Nat))) &&
 ((bif ((getD z159 (toNat ((UInt8.toNat (x - (128:UInt8)):Nat):Int)) (0:Int)) != (0:Int)) then (getD z159 (toNat ((UInt8.toNat (x - (128:UInt8)):Nat):Int)) (0:Int)) else 65533)==qay x)))
theorem qzP:∀ i:Fin 256,qLf (ofNat i.val)=true:=by decide +kernel
theorem qER:∀ (x0:UInt8),∃ n,qHq n x0=qpL (z148 x0):=fun x=>⟨0,by
 have hm:=qtp (P:=fun x=>qLf x=true) qzP x;unfold qHq qdr z148;rw[qqe];cases h1:decide (x < (128:UInt8)) with
 | true=>unfold qay;rw[h1];rfl
 | false =>
  cases h2:decide ((160:UInt8)≤x) with
  | true =>
   have h3:decide ((159:UInt8) < x)=true:=by
    have h2':=of_decide_eq_true h2;apply yo;rw[UInt8.le_iff_toNat_le] at h2';rw[UInt8.lt_iff_toNat_lt];exact h2'
   unfold qay;rw[h1,h3];rfl
  | false =>
   unfold qLf at hm;rw[h1,h2,Bool.false_or,Bool.false_or,yf,beq_iff_eq] at hm;rw[yd,yd,hm.1,yc,← hm.2];cases ((getD z159 (toNat ((UInt8.toNat (x - (128:UInt8)):Nat):Int)) (0:Int)) != (0:Int)) <;> rfl⟩
theorem qsx (k:LU):∀ l:List (LU×Int),@findM .str (.int .i64) k l=qGh k l
 | []=>rfl
 | p :: l=>by
  show (bif k==p.1 then some p.2 else @findM .str (.int .i64) k l)=_;rw[qsx k l];rfl
theorem qQW (s:LU):(z45 s).length≤s.length:=by
 unfold z45 z63;exact yL (qss _ _) (qgW _ _)
theorem qLg:∀ (s0:LU),(qGi s0=true)→∃ n,qKA n s0=qnb (z29 s0).1 (z29 s0).2:=fun s h=>⟨0,by
 have hl:=qf h;have hb:=qQW s;unfold qKA z29;rw[show qGg s=true from h,show qeE (z45 s)=true from qe (by omega),qsx];cases qGh (z37 (z45 s)) z44 <;> rfl⟩
theorem qnD:∀ i:Fin 256,(((ofNat i.val) &&& ~~~ (63:UInt8))==(128:UInt8))=z177 (ofNat i.val):=by decide +kernel
theorem qES:∀ (c0:UInt8),∃ n,qHl n c0=qga (z177 c0):=fun c=>⟨0,by
 unfold qHl;rw[qtp (P:=fun c=>((c &&& ~~~ (63:UInt8))==(128:UInt8))=z177 c) qnD c]⟩
theorem qHV:∀ (f:UInt8) (n:Nat) (one:Bool) (s:LU),runB f n one s≤n∧runB f n one s≤s.length
 | f,0,one,s=>by cases s <;> exact⟨yv _,Nat.zero_le _⟩
 | f,n+1,one,[]=>⟨Nat.zero_le _,Nat.zero_le _⟩
 | f,n+1,one,x :: r=>by
  have ih:=qHV f n false r;show (bif z177 x&&(!one||z178 f x) then runB f n false r+1 else 0)≤n+1∧(bif z177 x&&(!one||z178 f x) then runB f n false r+1 else 0)≤r.length+1;cases z177 x&&(!one||z178 f x)
  ·exact⟨Nat.zero_le _,Nat.zero_le _⟩
  ·simp only[yc];omega
theorem qLh (a b:Nat) (hb:b < 64) (h:a*64+b < 2147483648):bits .or .i32 ((a*64:Nat):Int) (b:Int)=((a*64+b:Nat):Int):=by
 have h1:(BitVec.ofInt 32 ((a*64:Nat):Int)).toNat=a*64:=by rw[BitVec.toNat_ofInt];omega
 have h2:(BitVec.ofInt 32 ((b:Nat):Int)).toNat=b:=by rw[BitVec.toNat_ofInt];omega
 have h3:(BitVec.ofInt 32 ((a*64:Nat):Int) ||| BitVec.ofInt 32 (b:Int)).toNat=a*64+b:=by
  rw[BitVec.toNat_or,h1,h2];have:=Nat.shiftLeft_add_eq_or_of_lt (i:=6) hb a;rw[Nat.shiftLeft_eq] at this;exact this.symm
 show wrap .i32 (((BitVec.ofInt 32 ((a*64:Nat):Int) ||| BitVec.ofInt 32 (b:Int)).toNat:Nat):Int)=_;rw[h3,IntWalk.i32_in _ (by omega)]
def foldS (t:LU) (c:Int):Int:=t.foldl (fun c y=>c*64+((y &&& 63).toNat:Int)) c
theorem qzQ:∀ i:Fin 256,((ofNat i.val) &&& (63:UInt8)).toNat < 64:=by decide +kernel
theorem low6 (y:UInt8):(y &&& 63).toNat < 64:=qtp (P:=fun y=>(y &&& 63).toNat < 64) qzQ y
theorem qkd (m:Nat) (t:LU) (n5:Int) (hl:t.length≤1048576):∀ (d i n b c:Nat),i+d=t.length→d < n→c < b→b*64 ^ d≤67108864 →
 qeu (qfk m) n n5 (c:Int) t (t.length:Nat) (i:Nat)=qcL (foldS (t.drop i) c) n5 0
 | d,i,0,b,c,hi,hn,_,_=>by omega
 | 0,i,n+1,b,c,hi,hn,_,_=>by
  obtain rfl:i=t.length:=by omega
  show qcn _ _ n _ _ _ _ _=_;unfold qcn;rw[dF (by omega),yd,List.drop_length];rfl
 | d+1,i,n+1,b,c,hi,hn,hc,hb=>by
  show qcn _ _ n _ _ _ _ _=_;unfold qcn;have hlt:i < t.length:=by omega
  have h64:0 < 64 ^ d:=Nat.pow_pos (by decide);have hb':b*64*64 ^ d≤67108864:=by rw[Nat.pow_succ] at hb;rwa[Nat.mul_assoc,Nat.mul_comm 64]
  have hb2:b*64≤b*64*64 ^ d:=Nat.le_mul_of_pos_right _ h64;have hy:=low6 (t.getD i 0);simp (disch:=omega) only [dT,yc,yi,tn];have e1:wrap .i32 ((c:Int)*2 ^ (min (toNat (6:Int)) (IntKind.bits .i32)))=((c*64:Nat):Int):=by
   show wrap .i32 ((c:Int)*64)=_;rw[IntWalk.i32_in _ (by omega)];omega
  rw[e1,IntWalk.i32_in _ (by omega),qLh _ _ hy (by omega),ql (by omega),qkd m t n5 hl d (i+1) n (b*64) _ (by omega) (by omega) (by omega) hb',qst hlt];show _=qcL (foldS (t.drop (i+1)) ((c:Int)*64+(((t.getD i 0) &&& 63).toNat:Int))) n5 0;congr 2
theorem qzR:∀ i:Fin 256,∀ n:Fin 5,((ofNat i.val) &&& ~~~ (z157 ((n.val:Nat):Int)))=((ofNat i.val) &&& (255 ^^^ (z157 ((n.val:Nat):Int)))):=by decide +kernel
theorem qQX (x:UInt8) (n:Nat) (hn:n < 5):(x &&& ~~~ (z157 ((n:Nat):Int)))=(x &&& (255 ^^^ (z157 ((n:Nat):Int)))):=qtp (P:=fun x=>∀ n:Fin 5,(x &&& ~~~ (z157 ((n.val:Nat):Int)))=(x &&& (255 ^^^ (z157 ((n.val:Nat):Int))))) qzR x ⟨n,hn⟩
theorem qHW (x:UInt8) (r:LU):farN (x :: r)≤qk x∧farN (x :: r)≤r.length+1:=by
 show (bif qk x==0 then 0 else 1+runB x (qk x - 1) true r)≤_∧(bif qk x==0 then 0 else 1+runB x (qk x - 1) true r)≤_;have:=qHV x (qk x - 1) true r;cases h:qk x==0 with
 | true=>exact⟨Nat.zero_le _,Nat.zero_le _⟩
 | false =>
  rw[yB] at h;simp only[yd];omega
theorem qET:∀ (s0:LU),(qtj s0=true)→∃ n,qrX n s0=qcL (z149 s0).1 (z149 s0).2.1 (z149 s0).2.2:=fun s h=>⟨s.length+5,by
 have hl:=qf h;match s with
 | []=>rfl
 | x :: r =>
  simp only[yg] at hl;have hf:=qHW x r;have h4:=qsu x;obtain⟨N,hN⟩:∃ N,farN (x :: r)=N:=⟨_,rfl⟩;have eT:z149 (x :: r)=bif farN (x :: r)==0 then ((0:Int),((1:Int),(3:Int))) else bif decide (farN (x :: r) < qk x)&&(farN (x :: r)==(x :: r).length) then (0,(farN (x :: r):Nat),4)
   else bif decide (farN (x :: r) < qk x) then (0,(farN (x :: r):Nat),3) else (signN (farN (x :: r)) (x :: r),(farN (x :: r):Nat),0):=rfl
  have eF:z167 (x :: r)=(N:Int):=by rw[← hN];rfl
  have eS:z168 (getD (x :: r) (toNat 0) 0)=((qk x:Nat):Int):=rfl;have hok:qko (x :: r)=true:=by
   unfold qko;rw[qe (show (x :: r).length≤1048576 by simp only[yg];omega)];rfl
  have h0:decide ((0:Int) < (((x :: r).length:Nat):Int))=true:=dT (by simp only[yg];omega);have h00:((((x :: r).length:Nat):Int)==0)=false:=by rw[yB];simp only[yg];omega
  rw[eT,hN];rw[hN] at hf;unfold qrX qfm qfl qdq qco qbJ;rw[eF,eS,hok,h0,h00];simp only[yi,yc,yd,show decide ((0:Int)≤0)=true from rfl]
  by_cases hz:N=0
  ·subst hz;rfl
  ·rw[show (((N:Nat):Int)==0)=false by rw[yB];omega,show (N==0)=false by simpa using hz];simp only[yd]
   by_cases hs:N < qk x
   ·rw[dT (show ((N:Nat):Int) < ((qk x:Nat):Int) by omega),yo hs];simp only[yc,y6]
    by_cases hlN:N=(x :: r).length
    ·rw[show (((N:Nat):Int)==(((x :: r).length:Nat):Int))=true by rw[beq_iff_eq];omega,show (N==(x :: r).length)=true by simpa using hlN];rfl
    ·rw[show (((N:Nat):Int)==(((x :: r).length:Nat):Int))=false by rw[yB];omega,show (N==(x :: r).length)=false by simpa using hlN];rfl
   ·rw[dF (show ¬ ((N:Nat):Int) < ((qk x:Nat):Int) by omega),yx hs];simp only[yd,y5];rw[dT (show (1:Int)≤((N:Nat):Int) by omega),dT (show ((N:Nat):Int)≤(((x :: r).length:Nat):Int) by simp only[yg];omega)];simp only[show decide ((0:Int)≤1)=true from rfl,yi,yc,tn];have e1:List.drop (toNat 1) (take N (x :: r))=r.take (N - 1):=by
     obtain⟨k,rfl⟩:∃ k,N=k+1:=⟨N - 1,by omega⟩;rfl
    have e2:getD (x :: r) (toNat 0) 0=x:=rfl;rw[e1,e2,qQX x N (by omega)];have hx:=(x &&& (255 ^^^ z157 ((N:Nat):Int))).toNat_lt;have ht:(r.take (N - 1)).length=N - 1:=by rw[yz];omega
    rw[IntWalk.i32_in _ (by omega)];have:=qkd ((x :: r).length+5) (r.take (N - 1)) (N:Int) (by omega) (r.take (N - 1)).length 0 ((x :: r).length+5) 256 _ (by omega) (by simp only[yg];omega) hx (by
     rw[ht];have:N - 1=0∨N - 1=1∨N - 1=2∨N - 1=3:=by omega
     rcases this with e | e | e | e <;> rw[e] <;> decide)
    rw[yw] at this;exact this⟩
theorem qQY (x:UInt8) (r:LU):(z149 (x :: r)).2.1=((z149 (x :: r)).2.1.toNat:Int)∧(z149 (x :: r)).2.1.toNat≤r.length+1:=by
 have hf:=qHW x r;show ((bif farN (x :: r)==0 then ((0:Int),((1:Int),(3:Int))) else bif decide (farN (x :: r) < qk x)&&(farN (x :: r)==(x :: r).length) then (0,(farN (x :: r):Nat),4)
  else bif decide (farN (x :: r) < qk x) then (0,(farN (x :: r):Nat),3) else (signN (farN (x :: r)) (x :: r),(farN (x :: r):Nat),0)).2.1=(((bif farN (x :: r)==0 then ((0:Int),((1:Int),(3:Int))) else bif decide (farN (x :: r) < qk x)&&(farN (x :: r)==(x :: r).length) then (0,(farN (x :: r):Nat),4)
  else bif decide (farN (x :: r) < qk x) then (0,(farN (x :: r):Nat),3) else (signN (farN (x :: r)) (x :: r),(farN (x :: r):Nat),0)).2.1.toNat:Nat):Int))∧(bif farN (x :: r)==0 then ((0:Int),((1:Int),(3:Int))) else bif decide (farN (x :: r) < qk x)&&(farN (x :: r)==(x :: r).length) then (0,(farN (x :: r):Nat),4)
  else bif decide (farN (x :: r) < qk x) then (0,(farN (x :: r):Nat),3) else (signN (farN (x :: r)) (x :: r),(farN (x :: r):Nat),0)).2.1.toNat≤r.length+1
 cases farN (x :: r)==0
 ·cases decide (farN (x :: r) < qk x)&&(farN (x :: r)==(x :: r).length)
  ·cases decide (farN (x :: r) < qk x)
   ·exact⟨rfl,hf.2⟩
   ·exact⟨rfl,hf.2⟩
  ·exact⟨rfl,hf.2⟩
 ·exact⟨rfl,by show 1≤_;omega⟩
theorem qzS (m:Nat):∀ (n k:Nat) (s:LU) (t:LI),s.length < n→s.length < k→s.length≤1048576→t.length+s.length≤2097152 →
 qbK (qcN m) n s t=qbb (t++utfR k s)
 | 0,k,s,t,hn,_,_,_=>by omega
 | n+1,0,s,t,_,hk,_,_=>by omega
 | n+1,k+1,[],t,_,_,_,_=>by
  show qbb t=qbb (t++[]);rw[yG]
 | n+1,k+1,x :: r,t,hn,hk,hl,ht=>by
  show qcM _ (qbK (qcN m) n) n _ _=_;unfold qcM;simp only[yg] at hn hk hl ht;obtain⟨e1,e2⟩:=qQY x r;have e3:=qMV x r;rw[dT (show (0:Int) < (((x :: r).length:Nat):Int) by simp only[yg];omega),show qtj (x :: r)=true from qe (by simp only[yg];omega),
   show qto (z149 (x :: r)).1 (z149 (x :: r)).2.2 t=true from yo (by omega)]
  generalize hw:(z149 (x :: r)).2.1.toNat=w at e1 e2 e3;rw[e1,dT (show (0:Int)≤(w:Int) by omega),dT (show (w:Int)≤(((x :: r).length:Nat):Int) by simp only[yg];omega),dT (Int.le_refl _)];simp only[yc,yi,tn,List.take_length];have hd:((x :: r).drop w).length≤r.length:=by rw[yK,yg];omega
  have hd2:((x :: r).drop w).length+1≤r.length+1:=by omega
  rw[qzS m n k ((x :: r).drop w) (z116 (z149 (x :: r)).1 (z149 (x :: r)).2.2 t) (by omega) (by omega) (by omega) (by unfold z116;rw[yn];show t.length+1+_≤_;omega)];show qbb _=qbb (t++((bif (z149 (x :: r)).2.2 != 0 then 65533 else (z149 (x :: r)).1) :: utfR k ((x :: r).drop (z149 (x :: r)).2.1.toNat)));rw[hw];unfold z116;rw[yl];rfl
theorem qqf:∀ (s0:LU) (f1:LI),(qcx s0 f1=true)→∃ n,qiI n s0 f1=qbb (qAO s0 f1):=fun s t h=>⟨s.length+1,by
 unfold qcx at h;rw[yf,ym] at h;have hl:=qf h.1;exact qzS (s.length+1) (s.length+1) (s.length+1) s t (by omega) (by omega) hl (by omega)⟩
theorem and15 (n:Int):bits .and .i64 n 15=n % 16:=by
 have h:(BitVec.ofInt 64 n &&& BitVec.ofInt 64 15).toNat=(n % 16).toNat:=by
  rw[BitVec.toNat_and];have h1:(BitVec.ofInt 64 15).toNat=2 ^ 4 - 1:=by decide
  rw[h1,Nat.and_two_pow_sub_one_eq_mod,BitVec.toNat_ofInt];omega
 show wrap .i64 (((BitVec.ofInt 64 n &&& BitVec.ofInt 64 15).toNat:Nat):Int)=_;rw[h,IntWalk.i64_in _ (by omega)];omega
theorem qEU:∀ (n0:Int),(qeh n0=true)→∃ n,qHL n n0=qrK (z160 n0):=fun n _=>⟨0,by
 unfold qHL z160;rw[and15];have h0:(0:Int)≤n % 16:=by omega
 have h1:n % 16 < (((([48,49,50,51,52,53,54,55,56,57,65,66,67,68,69,70]:LU).length:Nat)):Int):=by simp;omega
 rw[yo h0,yo h1];rfl⟩
theorem qzT:∀ i:Fin 256,[z160 (wrap .i64 ((UInt8.toNat (ofNat (UInt8.toNat (ofNat i.val) / 2 ^ (min (toNat (4:Int)) 8))):Nat):Int)),z160 (wrap .i64 ((UInt8.toNat (ofNat i.val):Nat):Int))]=z140 (ofNat i.val):=by decide +kernel
theorem boths (c:UInt8):[z160 (wrap .i64 ((UInt8.toNat (ofNat (UInt8.toNat c / 2 ^ (min (toNat (4:Int)) 8))):Nat):Int)),z160 (wrap .i64 ((UInt8.toNat c:Nat):Int))]=z140 c:=qKM (P:=fun c=>[z160 (wrap .i64 ((UInt8.toNat (ofNat (UInt8.toNat c / 2 ^ (min (toNat (4:Int)) 8))):Nat):Int)),z160 (wrap .i64 ((UInt8.toNat c:Nat):Int))]=z140 c) qzT c
theorem qEV:∀ (c0:UInt8),∃ n,qHM n c0=qGY (z140 c0):=fun c=>⟨0,by
 obtain⟨_,_,h1,h2⟩:=qST c;unfold qHM;rw[h1,h2,boths];rfl⟩
theorem qEW:∀ (b0:LU) (sign1:UInt8) (c2:UInt8),(qsZ b0 sign1 c2=true)→∃ n,qHN n b0 sign1 c2=qzx (z106 b0 sign1 c2):=fun b sign c h=>⟨0,by
 have hl:=qf h;unfold qHN z106 qaH z20;rw[show lenOk b=true from h,yi,yc,yo (by unfold room;simp;omega),yc,yo (by unfold room z140;simp;omega),yc,yl];rfl⟩
theorem qLi:∀ (charset0:Int),∃ n,qQP n charset0=qgt (z75 charset0):=fun cs=>⟨0,by
 unfold qQP z75 z61;cases (cs==(1:Int)) <;> cases (cs==(2:Int)) <;> cases (cs==(3:Int)) <;> cases (cs==(4:Int)) <;> cases (cs==(5:Int)) <;> rfl⟩
theorem qEX:∀ (c0:Int),∃ n,qHw n c0=qga (z155 c0):=fun c=>⟨0,by
 unfold qHw z155;cases decide ((55296:Int)≤c) <;> rfl⟩
theorem qEY:∀ (c0:Int),∃ n,qHx n c0=qga (z129 c0):=fun c=>⟨0,by
 unfold qHx z129;cases decide (wrap .u32 c≤1114111) <;> rfl⟩
theorem qEZ:∀ (c0:Int),∃ n,qQz n c0=qga (z128 c0):=fun _=>⟨0,rfl⟩
theorem qLj:∀ (s0:LI) (v1:Int),(quM s0 v1=true)→∃ n,qEc n s0 v1=qyD (z93 s0 v1):=fun t v h=>⟨t.length+1,by
 have hl:=qf (l:=t) h;unfold qEc z93;refine qgC (qcO (L:=fun n i=>qum qyD (qpU (t.length+1)) n t v ((t.length:Nat):Int) i) hl (fun n i hi=>?_) (fun n=>?_) t.length 0 (t.length+1) (by omega) (by omega)) rfl
 ·show qgi _ _ _ n _ _ _ _=_;unfold qgi;simp (disch:=omega) only [dT,yc,yi,tn,ql];cases (v==t.getD i 0) <;> rfl
 ·show qgi _ _ _ n _ _ _ _=_;unfold qgi;rw[dF (by omega)];rfl⟩
theorem qqg:∀ (t:LI),(qei t=true)→∃ n,qfr n t=qyD (z127 t):=fun t h=>⟨t.length+1,by
 have hl:=qf (l:=t) h;unfold qfr z127;refine qgC (qcO (L:=fun n i=>qcq qyD (qex (t.length+1)) n t ((t.length:Nat):Int) i) hl (fun n i hi=>?_) (fun n=>?_) t.length 0 (t.length+1) (by omega) (by omega)) rfl
 ·show qbd _ _ _ n _ _ _=_;unfold qbd;simp (disch:=omega) only [dT,yc,yi,tn,ql];unfold z128;cases z129 (t.getD i 0) <;> rfl
 ·show qbd _ _ _ n _ _ _=_;unfold qbd;rw[dF (by omega)];rfl⟩
theorem qFa:∀ (t:LI),(qtb t=true)→∃ n,qso n t=qyD (z138 t):=fun t h=>⟨t.length+1,by
 have hl:=qf (l:=t) h;unfold qso z138;refine qgC (qcO (L:=fun n i=>qjX qyD (qlt (t.length+1)) n t ((t.length:Nat):Int) i) hl (fun n i hi=>?_) (fun n=>?_) t.length 0 (t.length+1) (by omega) (by omega)) rfl
 ·show qdV _ _ _ n _ _ _=_;unfold qdV;simp (disch:=omega) only [dT,yc,yi,tn,ql];cases z132 (t.getD i 0) <;> rfl
 ·show qdV _ _ _ n _ _ _=_;unfold qdV;rw[dF (by omega)];rfl⟩
theorem qLk:∀ (t:LI),(qGd t=true)→∃ n,qEd n t=qyD (z96 t):=fun t h=>⟨t.length+1,by
 have hl:=qf (l:=t) h;unfold qEd z96;refine qgC (qcO (L:=fun n i=>qun qyD (qpV (t.length+1)) n t ((t.length:Nat):Int) i) hl (fun n i hi=>?_) (fun n=>?_) t.length 0 (t.length+1) (by omega) (by omega)) rfl
 ·show qgj _ _ _ n _ _ _=_;unfold qgj;simp (disch:=omega) only [dT,yc,yi,tn,ql];cases z130 (t.getD i 0) <;> rfl
 ·show qgj _ _ _ n _ _ _=_;unfold qgj;rw[dF (by omega)];rfl⟩
theorem qFb:∀ (cs:Int) (t:LI),(qth cs t=true)→∃ n,qsl n cs t=qyD (z135 cs t):=fun cs t h=>⟨t.length+1,by
 have hl:=qf (l:=t) h;unfold qsl z135;refine qgC (qcO (L:=fun n i=>qjU qyD (qls (t.length+1)) n cs t ((t.length:Nat):Int) i) hl (fun n i hi=>?_) (fun n=>?_) t.length 0 (t.length+1) (by omega) (by omega)) rfl
 ·show qdS _ _ _ n _ _ _ _=_;unfold qdS;simp (disch:=omega) only [dT,yc,yi,tn,ql];cases z98 cs (t.getD i 0) <;> rfl
 ·show qdS _ _ _ n _ _ _ _=_;unfold qdS;rw[dF (by omega)];rfl⟩
theorem qLl:∀ (t0:LI),(qGc t0=true)→∃ n,qQA n t0=qyD (z92 t0):=fun t h=>⟨0,by
 unfold qQA;rw[show qei t=true from h];rfl⟩
theorem qLm:∀ (t0:LI),(quN t0=true)→∃ n,qQB n t0=qga (z65 t0):=fun t h=>⟨0,by
 unfold qQB;rw[show qGc t=true from h];rfl⟩
theorem qFc:∀ (c0:Int),∃ n,qHI n c0=qyD (z156 c0):=fun c=>⟨0,by
 unfold qHI z156;cases z129 c <;> cases decide (c < (128:Int)) <;> cases decide (c < (2048:Int)) <;> cases decide (c < (65536:Int)) <;> rfl⟩
theorem qFd:∀ (b0:LU) (c1:Int),(qta b0 c1=true)→∃ n,qHJ n b0 c1=qzm (z136 b0 c1).1 (z136 b0 c1).2:=fun b c h=>⟨0,by
 have hl:=qf (l:=b) h;unfold qHJ qap qbN qdv qbM qiR z136;rw[show qaH b=true from h,show z20 b=b from rfl];have hr:∀ (l m:LU),l.length≤1048580→m.length≤10→decide (l.length+m.length≤room)=true:=fun l m h1 h2=>dT (by unfold room;omega);rcases qnz c with e | e | e | e | e <;> rw[e]
 ·rfl
 ·rw[hr b _ (by omega) (by simp)];rfl
 ·simp only[show ((2:Int)==0)=false from rfl,show ((2:Int)==4)=false from rfl,show ((2:Int)==3)=false from rfl,show ((2:Int)==2)=true from rfl,yd,yc];rw[hr b _ (by omega) (by simp),hr (b++_) _ (by simp;omega) (by simp)];simp only[yl];rfl
 ·simp only[show ((3:Int)==0)=false from rfl,show ((3:Int)==4)=false from rfl,show ((3:Int)==3)=true from rfl,yd,yc];rw[hr b _ (by omega) (by simp),hr (b++_) _ (by simp;omega) (by simp),hr (b++_++_) _ (by simp;omega) (by simp)];simp only[yl];rfl
 ·simp only[show ((4:Int)==0)=false from rfl,show ((4:Int)==4)=true from rfl,yd,yc];rw[hr b _ (by omega) (by simp),hr (b++_) _ (by simp;omega) (by simp),hr (b++_++_) _ (by simp;omega) (by simp),hr (b++_++_++_) _ (by simp;omega) (by simp)];simp only[yl];rfl⟩
theorem qzU {β:Type} (ret:UInt8→Bool→β) (b:Bool) (x y:UInt8×Bool):ret (bif b then x else y).1 (bif b then x else y).2=bif b then ret x.1 x.2 else ret y.1 y.2:=by cases b <;> rfl
theorem qFe:∀ (c0:Int),∃ n,qzp n c0=qll (z137 c0).1 (z137 c0).2:=fun c=>⟨9,by
 unfold z137;simp only[qzU];rw[show (bif decide (c < 0)||decide (256≤c) then qll (0,false).1 (0,false).2 else qll (oct8 c,true).1 (oct8 c,true).2)=qhF 9 c from by
  unfold qhF;cases decide (c < (0:Int)) <;> cases decide ((256:Int)≤c) <;> rfl]
 rfl⟩
theorem qFf:∀ (c0:Int),∃ n,qQJ n c0=qga (z131 c0):=fun _=>⟨0,rfl⟩
theorem qFg:∀ (c0:Int),∃ n,qHE n c0=qll (z139 c0).1 (z139 c0).2:=fun c=>⟨0,by
 unfold qHE qcv qcu qct z139;rw[show quM z159 c=true from by show lenOk z159=true;decide];have h1:decide (0≤c)=false→decide (c < 256)=true:=by simp;omega
 have h2:decide (c < 128)=true→decide (c < 256)=true:=by simp;omega
 have h3:decide (160≤c)=true→decide (0≤c)=true:=by simp;omega
 have h4:decide (160≤c)=true→decide (c < 128)=false:=by simp;omega
 have h5:decide (160≤c)=false→decide (c < 256)=true:=by simp;omega
 simp only[qzU];revert h1 h2 h3 h4 h5;cases decide ((0:Int)≤c) <;> cases decide (c < (128:Int)) <;> cases decide ((160:Int)≤c) <;> cases decide (c < (256:Int)) <;> cases decide (z93 z159 c < (0:Int)) <;> intro h1 h2 h3 h4 h5 <;> first | rfl | (exfalso;revert h1 h2 h3 h4 h5;decide)⟩
theorem qFh:∀ (c0:Int),∃ n,qQK n c0=qga (z132 c0):=fun _=>⟨0,rfl⟩
theorem qFi:∀ (c0:Int),∃ n,qQG n c0=qga (z130 c0):=fun _=>⟨0,rfl⟩
theorem qzV (k0:LU→OA) (t:LI) (hl:t.length≤1048576):∀ (d i n:Nat),i+d=t.length→d < n →
 qnp k0 n ((t.take i).map (fun c=>ofNat (toNat (wrap .u8 c)))++replicate (t.length - i) 0) t (t.length:Nat) (i:Nat)=k0 (t.map fun c=>ofNat (toNat (wrap .u8 c)))
 | d,i,0,hi,hn=>by omega
 | 0,i,n+1,hi,hn=>by
  show qgk k0 (qnp k0 n) n _ t _ _=_;unfold qgk;obtain rfl:i=t.length:=by omega
  rw[yx (by omega),yd,List.take_length,Nat.sub_self];simp
 | d+1,i,n+1,hi,hn=>by
  show qgk k0 (qnp k0 n) n _ t _ _=_;unfold qgk;have hlt:i < t.length:=by omega
  have hl2:((t.take i).map (fun c=>ofNat (toNat (wrap .u8 c)))++replicate (t.length - i) (0:UInt8)).length=t.length:=by simp;omega
  have ih:=qzV k0 t hl d (i+1) n (by omega) (by omega);rw[qlT,yo hlt,yc,qaK,y6,yc,y6,qlT,hl2,yo hlt,yc,ql (by omega),qbR,
   qzK (fun c=>ofNat (toNat (wrap .u8 c))) t 0 i hlt 0]
  exact ih
theorem qLn:∀ (t0:LI),(quO t0=true)→∃ n,qEe n t0=qzm (z68 t0).1 (z68 t0).2:=fun t h=>⟨t.length+1,by
 have hl:=qf h;unfold qEe z68;rw[show qGd t=true from h,yi,yc];cases z96 t != -1 with
 | true=>rfl
 | false =>
  have:=qzV (qlr (t.length+1)) t hl t.length 0 (t.length+1) (by omega) (by omega);rw[yd,yd,qaK,yo (Int.le_refl _),yo (by unfold room;omega)];unfold qlr at this ⊢;simpa using this⟩
theorem qLo:∀ (charset0:Int) (c1:Int),∃ n,qQL n charset0 c1=qga (z98 charset0 c1):=fun cs c=>⟨0,by
 unfold qQL z98;cases (cs==(1:Int)) <;> cases (cs==(2:Int)) <;> cases (cs==(3:Int)) <;> cases (cs==(4:Int)) <;> cases (cs==(5:Int)) <;> cases decide ((0:Int)≤c) <;> rfl⟩
theorem qFj:∀ (charset0:Int),∃ n,qHG n charset0=qyD (z100 charset0):=fun cs=>⟨0,by
 unfold qHG z100
 by_cases h:cs=2
 ·subst h;rfl
 ·rw[beqF h];cases (cs==(1:Int)) <;> cases (cs==(3:Int)) <;> cases (cs==(4:Int)) <;> cases (cs==(5:Int)) <;> rfl⟩
theorem qFk:∀ (charset0:Int) (t1:LI),(qti charset0 t1=true)→∃ n,qHH n charset0 t1=qga (z101 charset0 t1):=fun cs t h=>⟨0,by
 unfold qHH z101;rw[show qth cs t=true from h];cases decide (0 < z100 cs) <;> rfl⟩
theorem qFl:∀ (t0:LI),(qtc t0=true)→∃ n,qsn n t0=qzm (z103 t0).1 (z103 t0).2:=fun t h=>⟨t.length+1,by
 have hl:=qf (l:=t) h;unfold qsn z103;have:=qeC (t:=t) (dv:=0) (f:=fun c=>[(z137 c).1]) (q:=z131) (b:=1) (k0:=qhH (t.length+1)) (R:=qzm [] 9)
  (L:=fun n out i=>qjW qzm (qhH (t.length+1)) n out t ((t.length:Nat):Int) i) (fun x=>by simp) (fun n i out hi hb=>by
   show qdU _ _ _ n _ _ _ _=_;unfold qdU;simp (disch:=omega) only [dT,yc,yi,tn,ql,yg,List.length_nil,yE];show (bif !(z131 (t.getD i 0)) then _ else _)=_;cases z131 (t.getD i 0) <;> rfl) (fun n out=>by
   show qdU _ _ _ n _ _ _ _=_;unfold qdU;rw[dF (by omega)];rfl) t.length 0 (t.length+1) [] (by omega) (by omega) (by unfold room;simp;omega)
 refine this.trans ?_;rw[yw,qbg];cases t.all z131 <;> rfl⟩
theorem qFm:∀ (t0:LI),(qtd t0=true)→∃ n,qsp n t0=qzm (z104 t0).1 (z104 t0).2:=fun t h=>⟨t.length+1,by
 have hl:=qf (l:=t) h;unfold qsp z104;rw[show qtb t=true from h];cases decide (0≤z138 t) with
 | true=>rfl
 | false =>
  have:=qeC (t:=t) (dv:=0) (f:=fun c=>[(z139 c).1]) (q:=fun _=>true) (b:=1) (k0:=qhI (t.length+1)) (R:=none)
   (L:=fun n out i=>qjY (qhI (t.length+1)) n out t ((t.length:Nat):Int) i) (fun x=>by simp) (fun n i out hi hb=>by
    show qdW _ _ n _ _ _ _=_;unfold qdW;simp (disch:=omega) only [dT,yc,yi,tn,ql,yg,List.length_nil,yE]) (fun n out=>by
    show qdW _ _ n _ _ _ _=_;unfold qdW;rw[dF (by omega)];rfl) t.length 0 (t.length+1) [] (by omega) (by omega) (by unfold room;simp;omega)
  simp (disch:=(first | omega | (unfold room;omega))) only [dT,yc,yd,yi];refine this.trans ?_;rw[yw,qbg,List.all_eq_true.2 (fun _ _=>rfl)];rfl⟩
theorem qFn:∀ (t0:LI),(qte t0=true)→∃ n,qsm n t0=qzm (z102 t0).1 (z102 t0).2:=fun t h=>⟨t.length+1,by
 have hl:=qf (l:=t) h;unfold qsm z102;rw[show quN t=true from h];cases !(z65 t) with
 | true=>rfl
 | false =>
  have:=qeC (t:=t) (dv:=0) (f:=fun c=>(z136 [] c).1) (q:=fun _=>true) (b:=4) (k0:=qhG (t.length+1)) (R:=none)
   (L:=fun n out i=>qjV (qhG (t.length+1)) n out t ((t.length:Nat):Int) i) qzL (fun n i out hi hb=>by
    show qdT _ _ n _ _ _ _=_;unfold qdT;have hp:=qzL (t.getD i 0);rw[show qta ([]:LU) (t.getD (toNat (i:Int)) 0)=true from rfl];simp (disch:=omega) only [dT,yc,yi,tn,ql]) (fun n out=>by
    show qdT _ _ n _ _ _ _=_;unfold qdT;rw[dF (by omega)];rfl) t.length 0 (t.length+1) [] (by omega) (by omega) (by unfold room;simp;omega)
  simp only[yc,yd,yi];refine this.trans ?_;rw[yw,List.all_eq_true.2 (fun _ _=>rfl)];rfl⟩
theorem qLp:∀ (charset0:Int) (t1:LI),(qGe charset0 t1=true)→∃ n,qQO n charset0 t1=qzm (z72 charset0 t1).1 (z72 charset0 t1).2:=fun cs t h=>⟨0,by
 unfold qQO z72;rw[show qti cs t=true from h,show qte t=true from h,show qtc t=true from h,show qtd t=true from h,show quO t=true from h];cases (z100 cs==0) <;> cases z101 cs t <;> cases (cs==(5:Int)) <;> cases (cs==(3:Int)) <;> cases (cs==(4:Int)) <;> rfl⟩
theorem qLq:∀ (x0:Int),(qFV x0=true)→∃ n,qQM n x0=qyD (z99 x0):=fun x h=>⟨0,by
 unfold qQM;rw[show qAK x=true from h];rfl⟩
theorem qLr:∀ (sets0:Int),(qFX sets0=true)→∃ n,qQN n sets0=qyD (z71 sets0):=fun s h=>⟨0,by
 have h':=of_decide_eq_true h;unfold qQN z71;cases (s==0) with
 | true=>rfl
 | false =>
  have hw:wrap .u64 s=s:=by
   exact IntWalk.u64_in s (by omega)
  rw[hw,show qFV s=true from yo (by omega)];rfl⟩
theorem qLs:∀ a b c d e:Bool,(bif e then bits .or .i64 (bif d then bits .or .i64 (bif c then bits .or .i64 (bif b then bits .or .i64 (bif a then bits .or .i64 0 2 else 0) 4 else (bif a then bits .or .i64 0 2 else 0)) 8 else (bif b then bits .or .i64 (bif a then bits .or .i64 0 2 else 0) 4 else (bif a then bits .or .i64 0 2 else 0))) 16 else (bif c then bits .or .i64 (bif b then bits .or .i64 (bif a then bits .or .i64 0 2 else 0) 4 else (bif a then bits .or .i64 0 2 else 0)) 8 else (bif b then bits .or .i64 (bif a then bits .or .i64 0 2 else 0) 4 else (bif a then bits .or .i64 0 2 else 0)))) 32 else
 (bif d then bits .or .i64 (bif c then bits .or .i64 (bif b then bits .or .i64 (bif a then bits .or .i64 0 2 else 0) 4 else (bif a then bits .or .i64 0 2 else 0)) 8 else (bif b then bits .or .i64 (bif a then bits .or .i64 0 2 else 0) 4 else (bif a then bits .or .i64 0 2 else 0))) 16 else (bif c then bits .or .i64 (bif b then bits .or .i64 (bif a then bits .or .i64 0 2 else 0) 4 else (bif a then bits .or .i64 0 2 else 0)) 8 else (bif b then bits .or .i64 (bif a then bits .or .i64 0 2 else 0) 4 else (bif a then bits .or .i64 0 2 else 0)))))=maskB a b c d e:=by decide +kernel
theorem qQZ:∀ a b c d e a' b' c' d' e':Bool,bits .and .i64 (maskB a b c d e) (maskB a' b' c' d' e')=maskB (a&&a') (b&&b') (c&&c') (d&&d') (e&&e'):=by decide +kernel
theorem qRa:∀ a b c d e:Bool,z71 (maskB a b c d e)=bif a then 1 else bif b then 2 else bif c then 3 else bif d then 4 else bif e then 5 else 0:=by decide +kernel
theorem qLt:∀ a b c d e:Bool,(maskB a b c d e==0) = !(a||b||c||d||e):=by decide +kernel
theorem qSU:∀ a b c d e:Bool,0≤maskB a b c d e∧maskB a b c d e < 64:=by decide +kernel
theorem qLu:∀ (c0:Int),∃ n,qEg n c0=qyD (z70 c0):=fun c=>⟨6,by
 have w:∀ i:Nat,i < 10→wrap .i64 ((i:Int)+1)=((i+1:Nat):Int):=fun i h=>ql (by omega);have step:∀ (k i:Nat) (s:Int),i < 5→qnr (qiO 6) (k+1) c s (i:Int)=qnr (qiO 6) k c (bif z98 ((i+1:Nat):Int) c then bits .or .i64 s (wrap .i64 ((1:Int)*2 ^ (min (i+1) (IntKind.bits .i64)))) else s) ((i+1:Nat):Int):=fun k i s hi=>by
  show qgm _ _ k _ _ _=_;unfold qgm;rw[dT (show (i:Int) < 5 by omega),w i (by omega)];cases z98 ((i+1:Nat):Int) c with
  | true =>
   rw[dT (show (0:Int)≤((i+1:Nat):Int) by omega),tn];rfl
  | false=>rfl
 have last:∀ (k:Nat) (s:Int),qnr (qiO 6) (k+1) c s (5:Nat)=qyD s:=fun k s=>by
  show qgm _ _ k _ _ _=_;unfold qgm;rw[dF (by omega)];rfl
 unfold qEg z70 maskF;rw[show (0:Int)=((0:Nat):Int) from rfl,step 5 0 _ (by omega),step 4 1 _ (by omega),step 3 2 _ (by omega),step 2 3 _ (by omega),step 1 4 _ (by omega),last 0];simp only[];rw[← qLs (z98 1 c) (z98 2 c) (z98 3 c) (z98 4 c) (z98 5 c)];rfl⟩
def qsy (t:LI) (a b c d e:Bool):Int:=maskB (a&&t.all (z98 1)) (b&&t.all (z98 2)) (c&&t.all (z98 3)) (d&&t.all (z98 4)) (e&&t.all (z98 5))
theorem qke (t:LI) (hl:t.length≤1048576):∀ (d i n:Nat) (a b c x e:Bool),i+d=t.length→d < n →
 quq (qiP (t.length+1)) n (maskB a b c x e) t ((t.length:Nat):Int) (i:Int)=qiP (t.length+1) (qsy (t.drop i) a b c x e)
 | d,i,0,a,b,c,x,e,hi,hn=>by omega
 | 0,i,n+1,a,b,c,x,e,hi,hn=>by
  obtain rfl:i=t.length:=by omega
  show qgn _ _ n _ _ _ _=_;unfold qgn;rw[dF (by omega),yA (yv _)];simp[qsy]
 | d+1,i,n+1,a,b,c,x,e,hi,hn=>by
  have hlt:i < t.length:=by omega
  show qgn _ _ n _ _ _ _=_;unfold qgn;simp (disch:=omega) only [dT,yc,yi,tn,ql];unfold z70 maskF;rw[qQZ,qke t hl d (i+1) n _ _ _ _ _ (by omega) (by omega),qx (d:=(0:Int)) hlt];unfold qsy;simp only[List.all_cons,Bool.and_assoc]
theorem qLv:∀ (t0:LI),(qFY t0=true)→∃ n,qEh n t0=qnb (z49 t0).1 (z49 t0).2:=fun t h=>⟨t.length+1,by
 have hl:=qf (l:=t) h;unfold qEh;have h0:=qke t hl t.length 0 (t.length+1) true true true true true (by omega) (by omega);rw[show maskB true true true true true=62 from rfl] at h0;refine h0.trans ?_;unfold qsy qiP z49 selF qFW;simp only[y6,yw];rw[qLt,qRa,show ∀ z,0≤z∧z < 64→qFX z=true from fun z hz=>yo hz]
 ·cases t.all (z98 1) <;> cases t.all (z98 2) <;> cases t.all (z98 3) <;> cases t.all (z98 4) <;> cases t.all (z98 5) <;> rfl
 ·exact qSU _ _ _ _ _⟩
end
section
open IntKind (wrap)
variable {n:Int} {i:Nat} {name:LU} {t:LI}
theorem qiZ (cs:Int):(z75 cs).length≤12:=by
 unfold z75 z61;cases (cs==(1:Int)) <;> cases (cs==(2:Int)) <;> cases (cs==(3:Int)) <;> cases (cs==(4:Int)) <;> cases (cs==(5:Int)) <;> decide
theorem qfw {α β:Type} {t:List α} {dv:α} {f:α→List β} {k0:List β→OA} {L:Nat→List β→Int→OA} {b M:Nat} (hf:∀ x∈t,(f x).length≤b)
 (hL:∀ (n i:Nat) (out:List β),i < t.length→out.length+b≤M→L (n+1) out (i:Int)=L n (out++f (t.getD i dv)) ((i+1:Nat):Int)) (hE:∀ n out,L (n+1) out ((t.length:Nat):Int)=k0 out) :
 ∀ (d i n:Nat) (out:List β),i+d=t.length→d < n→out.length+b*d≤M→L n out (i:Int)=k0 (out++(t.drop i).flatMap f)
 | d,i,0,out,hi,hn,_=>by omega
 | 0,i,n+1,out,hi,hn,_=>by
  obtain rfl:i=t.length:=by omega
  rw[hE,yA (by omega)];simp
 | d+1,i,n+1,out,hi,hn,hb=>by
  have hlt:i < t.length:=by omega
  have hx:=hf (t.getD i dv) (by rw[yY,yO hlt];exact List.getElem_mem hlt);have hb':b*(d+1)=b*d+b:=by rw[Nat.mul_succ]
  have h0:0≤b*d:=Nat.zero_le _;rw[hL n i out hlt (by omega),qfw hf hL hE d (i+1) n _ (by omega) (by omega) (by rw[yn];omega),qx (d:=dv) hlt];simp only[List.flatMap_cons,yl]
theorem qbr {α:Type} {l:List α} (h:len1k l=true):l.length≤1000:=by unfold len1k at h;exact of_decide_eq_true h
theorem qcP {α:Type} {l:List α} (h:l.length≤1000):len1k l=true:=by unfold len1k;exact dT h
theorem qzW (c:UInt8):(oneC c).length≤3:=by
 unfold oneC z140;cases z35 c 256 <;> simp
theorem qzX (c:UInt8):(quoC c).length≤2:=by
 unfold quoC;cases (c==34)||(c==92) <;> simp
theorem qHX (s:LU):(s.flatMap quoC).length≤2*s.length:=by
 induction s with
 | nil=>simp
 | cons c r ih =>
  have:=qzX c;rw[List.flatMap_cons,yn,yg];omega
theorem qRb {α:Type} (s:List α):decide ((0:Int) < ((s.length:Nat):Int)) = !s.isEmpty:=by cases s <;> simp <;> omega
theorem qSV (h:0≤n∧n < 100):qoa n=true:=by unfold qoa;exact dT h
theorem qqh (n:Int):(digI n).length≤2:=by
 unfold digI;cases decide (n < 10) <;> simp
theorem qzY (name:LU) (n:Int) (e:Bool):(nameL name n e).length≤name.length+4:=by
 have hd:=qqh n;unfold nameL;cases decide (0≤n) <;> cases e <;> simp <;> omega
theorem qnE (name:LU) (n:Int) (cs:LU):(headL name n cs).length≤name.length+cs.length+7:=by
 have hd:=qzY name n true;unfold headL;cases decide (0 < n) <;> simp <;> omega
theorem qLw (n k:Nat):decide ((n:Int)≤(k:Int))=decide (n≤k):=by
 by_cases h:n≤k
 ·rw[dT h,dT (by omega)]
 ·rw[dF h,dF (by omega)]
theorem qsz {f:Int→LU} (h:∀ c,(f c).length≤4):∀ t:LI,(t.flatMap f).length≤4*t.length
 | []=>by simp
 | c :: t=>by
  have h1:=qsz h t;have h2:=h c;rw[List.flatMap_cons,yn,yg];omega
theorem qlz (t:LI):(z68 t).1.length≤t.length:=by
 unfold z68;cases z96 t != -1 <;> simp
theorem qnF (cs:Int) (t:LI):(z72 cs t).1.length≤4*t.length:=by
 have h1:(z102 t).1.length≤4*t.length:=by
  unfold z102;have:=qsz qzL t;cases !(z65 t) with
  | true=>exact Nat.zero_le _
  | false=>exact this
 have h2:(z103 t).1.length≤4*t.length:=by
  unfold z103;cases t.all z131 <;> simp <;> omega
 have h3:(z104 t).1.length≤4*t.length:=by
  unfold z104;cases decide (0≤z138 t) <;> simp <;> omega
 have h4:(z68 t).1.length≤4*t.length:=by
  have:=qlz t;omega
 unfold z72;cases (z100 cs==0) <;> cases z101 cs t <;> cases (cs==(5:Int)) <;> cases (cs==(3:Int)) <;> cases (cs==(4:Int)) <;> first | exact Nat.zero_le _ | assumption
theorem qLx (s:LU):(z73 s).length≤3*s.length:=by
 unfold z73;induction s with
 | nil=>simp
 | cons c r ih =>
  have:=qzW c;rw[List.flatMap_cons,yn,yg];omega
theorem qLy (cs c:Int):(unitL cs c).length≤12:=by
 unfold unitL;have h1:=qLx (z72 cs [c]).1;have h2:=qnF cs [c];simp only[yg,List.length_nil] at h2;omega
theorem qzZ (s:LU):(atomL s).length≤2*s.length+2:=by
 unfold atomL quoL;have:=qHX s;cases tokB s with
 | true=>simp only[yc];omega
 | false=>simp only[yd,yn,yg,List.length_nil];omega
theorem qAa (name:LU) (t:LI):(qjy name t).length≤name.length+2*t.length+3:=by
 unfold qjy;have h1:=qlz t;have h2:=qzZ (z68 t).1;simp only[yn,yg];omega
theorem qLz {α:Type} {t:List α} (h:i < t.length) (d:α):List.drop i (List.take (i+1) t)=[t.getD i d]:=by
 rw[List.drop_take,qx (d:=d) h,show i+1 - i=1 by omega];rfl
theorem qLA {α β:Type} (f:α→β) (l:List α):l.flatMap (fun c=>[f c])=l.map f:=qgB f l
structure PutI (name cs:LU) (i:Nat) (st:PutT):Prop where
 e:st.1=true→i=0
 n:st.2.2.length+(bif st.1 then 0 else 1)≤i
 l:st.2.1.length≤name.length+cs.length+100
 l0:st.1=true→st.2.1.length≤name.length+cs.length+7
theorem qAb {cs:LU} {st:PutT} (h:PutI name cs i st) {u:LU} (hu:u.length≤75) (hc:cs.length≤20):PutI name cs (i+1) (putU name cs st u):=by
 obtain⟨e,now,out⟩:=st;obtain⟨h1,h2,h3,h4⟩:=h;have hh:=qnE name ((out.length+1:Nat):Int) cs;simp only at h1 h2 h3 h4;unfold putU;simp only;cases hq : !e&&decide (74 < now.length+u.length) with
 | true =>
  simp only[yf,Bool.not_eq_true',ym] at hq;obtain⟨rfl,hlt⟩:=hq;simp only[yd] at h2;refine⟨(fun hf=>by cases hf),?_,?_,(fun hf=>by cases hf)⟩
  ·simp only[yc,yd,yn,yg,List.length_nil];omega
  ·simp only[yc,yn];omega
 | false =>
  refine⟨(fun hf=>by cases hf),?_,?_,(fun hf=>by cases hf)⟩
  ·simp only[yd];cases e with
   | true=>have:=h1 rfl;simp only[yc] at h2;omega
   | false=>simp only[yd] at h2;omega
  ·simp only[yd,yn];cases e with
   | true=>have:=h4 rfl;omega
   | false =>
    simp only[Bool.not_false,y6,decide_eq_false_iff_not] at hq;omega
theorem qqi (name cs:LU):∀ (l:List LU) (st:PutT),(l.foldl (putU name cs) st).2.2.length≤st.2.2.length+l.length
 | [],st=>yv _
 | u :: l,st=>by
  have h1:=qqi name cs l (putU name cs st u);have h2:(putU name cs st u).2.2.length≤st.2.2.length+1:=by
   unfold putU;cases !st.1&&decide (74 < st.2.1.length+u.length) <;> simp
  rw[List.foldl_cons,yg];omega
theorem qlA (name cs:LU):PutI name cs 0 (true,(headL name 0 cs,[])) :=
 ⟨fun _=>rfl,yv _,(by have:=qnE name 0 cs;show (headL name 0 cs).length≤_;omega),fun _=>qnE name 0 cs⟩
theorem qsA (cs:Int) (t:LI):∀ u∈z50 cs t,u.length≤75:=fun u hu=>by
 unfold z50 at hu;obtain⟨c,_,rfl⟩:=List.mem_map.1 hu;have:=qLy cs c;omega
theorem qHY (cs:Int) (t:LI):(z50 cs t).length=t.length:=yP _
theorem qnG (h:ok36 name t=true):name.length≤100∧t.length≤100:=by
 unfold ok36 at h;simpa using h
theorem qAc {name cs:LU} (hc:cs.length≤20):∀ (l:List LU) (i:Nat) (st:PutT),PutI name cs i st→(∀ u∈l,u.length≤75)→PutI name cs (i+l.length) (l.foldl (putU name cs) st)
 | [],i,st,h,_=>h
 | u :: l,i,st,h,hu=>by
  have:=qAc hc l (i+1) _ (qAb h (hu u List.mem_cons_self) hc) fun v hv=>hu v (List.mem_cons_of_mem _ hv);rw[List.foldl_cons,yg,show i+(l.length+1)=i+1+l.length by omega];exact this
theorem qsB {name cs:LU} (hc:cs.length≤20):∀ (l:List LU) (i:Nat) (st:PutT),PutI name cs i st→(∀ u∈l,u.length≤75)→(∀ x∈st.2.2,x.length≤name.length+cs.length+100)→∀ x∈(l.foldl (putU name cs) st).2.2,x.length≤name.length+cs.length+100
 | [],i,st,h,_,hx=>hx
 | u :: l,i,st,h,hu,hx=>by
  rw[List.foldl_cons];refine qsB hc l (i+1) _ (qAb h (hu u List.mem_cons_self) hc) (fun v hv=>hu v (List.mem_cons_of_mem _ hv)) fun x hx'=>?_;unfold putU at hx';cases hq : !st.1&&decide (74 < st.2.1.length+u.length) with
  | true =>
   rw[hq] at hx';simp only[yc,List.mem_append,List.mem_singleton] at hx';rcases hx' with hx' | rfl
   ·exact hx x hx'
   ·exact h.l
  | false =>
   rw[hq] at hx';exact hx x hx'
theorem qlB (h:ok36 name t=true):(qad name t).1.length≤101∧∀ x∈(qad name t).1,x.length≤1000:=by
 obtain⟨hn,ht⟩:=qnG h;have hun:=qHY (z49 t).1 t;have hu:=qsA (z49 t).1 t;have hc:=qiZ (z49 t).1;unfold qad;cases qjx name t != 0 with
 | true=>exact⟨Nat.zero_le _,fun x hx=>by cases hx⟩
 | false =>
  cases hp:(z48 name t).2 with
  | true =>
   refine⟨by simp,fun x hx=>?_⟩;have hpl:=qAa name t;simp only[yd,yc,List.mem_singleton] at hx;subst hx;omega
  | false =>
   cases (z49 t).2 != 0 with
   | true=>exact⟨Nat.zero_le _,fun x hx=>by cases hx⟩
   | false =>
    cases hw:decide ((headL name (-1) (z75 (z49 t).1)++(z50 (z49 t).1 t).flatten).length≤74) with
    | true =>
     refine⟨by simp,fun x hx=>?_⟩;simp only[yd,yc,List.mem_singleton] at hx;subst hx;have:=of_decide_eq_true hw;omega
    | false =>
     simp only[yd];unfold numL;have h1:=qqi name (z75 (z49 t).1) (z50 (z49 t).1 t) (true,(headL name 0 (z75 (z49 t).1),[]));have h2:=qAc (by omega) (z50 (z49 t).1 t) 0 _ (qlA name (z75 (z49 t).1)) hu;have h3:=qsB (by omega) (z50 (z49 t).1 t) 0 _ (qlA name (z75 (z49 t).1)) hu (fun x hx=>by cases hx);simp only[List.length_nil,yE] at h1;refine⟨by rw[yn,yg,List.length_nil];omega,fun x hx=>?_⟩;rcases List.mem_append.1 hx with hx | hx
     ·have:=h3 x hx;omega
     ·have hx':=List.mem_singleton.1 hx;subst hx';have:=h2.l;omega
theorem qFo:∀ (c0:UInt8),∃ n,qHK n c0=qyD (z105 c0):=fun c=>⟨0,by
 unfold qHK z105;cases z35 c 256 <;> rfl⟩
theorem qLB:∀ (s0:LU),(qGw s0=true)→∃ n,qEi n s0=qGY (z73 s0):=fun s h=>⟨s.length+1,by
 have hl:=qbr h;unfold qEi z73;have:=qfw (t:=s) (dv:=0) (f:=oneC) (b:=3) (M:=4000) (k0:=qlu (s.length+1)) (L:=fun n out i=>qur (qlu (s.length+1)) n out s ((s.length:Nat):Int) i) (fun x _=>qzW x) (fun n i out hi hb=>by
  show qgr _ _ n _ _ _ _=_;unfold qgr;rw[show qsZ out 37 (s.getD (Int.toNat (i:Int)) 0)=true from qe (by omega)];unfold room;simp (disch:=omega) only [dT,yc,yi,tn,ql,yg,List.length_nil];unfold z105 oneC z106;cases z35 (s.getD i 0) 256 <;> rfl) (fun n out=>by
  show qgr _ _ n _ _ _ _=_;unfold qgr;rw[dF (by omega)];rfl) s.length 0 (s.length+1) [] (by omega) (by omega) (by simp;omega)
 refine this.trans ?_;rw[yw];rfl⟩
theorem qLC:∀ (s0:LU),(qGx s0=true)→∃ n,qEf n s0=qGY (z97 s0):=fun s h=>⟨s.length+1,by
 have hl:=qbr h;unfold qEf z97 quoL;have:=qfw (t:=s) (dv:=0) (f:=quoC) (b:=2) (M:=4000) (k0:=qiN (s.length+1)) (L:=fun n out i=>qup (qiN (s.length+1)) n out s ((s.length:Nat):Int) i) (fun x _=>qzX x) (fun n i out hi hb=>by
  show qgl _ _ n _ _ _ _=_;unfold qgl qaf room;simp (disch:=omega) only [dT,yc,yi,tn,ql,yg,List.length_nil,yn];unfold quoC;cases s.getD i 0==34 <;> cases s.getD i 0==92 <;> first | rfl | (simp only[yc,yd,Bool.or_self,Bool.or_true,Bool.or_false,yl,List.cons_append,List.nil_append])) (fun n out=>by
  show qgl _ _ n _ _ _ _=_;unfold qgl qaf;rw[dF (by omega)];rfl) s.length 0 (s.length+1) [34] (by omega) (by omega) (by simp;omega)
 refine this.trans ?_;have hq:=qHX s;rw[yw];unfold qiN room;rw[dT (by simp only[yn,yg,List.length_nil];omega)];rfl⟩
theorem qLD:∀ (s0:LU),(qnZ s0=true)→∃ n,qQw n s0=qga (z19 s0):=fun s h=>⟨0,by
 have hl:=qbr h;unfold qQw z19 tokB;rw[qRb,show qju s 64=true from qe (by omega)];unfold z31;cases s.isEmpty <;> rfl⟩
theorem qLE:∀ (s0:LU),(qGy s0=true)→∃ n,qQH n s0=qGY (z69 s0):=fun s h=>⟨0,by
 have hl:=qbr h;unfold qQH z69 atomL;rw[show qnZ s=true from h,show qaH s=true from qe (by omega),show qGx s=true from h,show z19 s=tokB s from rfl];cases tokB s <;> rfl⟩
theorem qlC (h:qoa n=true):0≤n∧n < 100:=by unfold qoa at h;exact of_decide_eq_true h
def outS:OA→Option LU
 | some (df s none)=>some s
 | _=>none
theorem qFp:∀ i:Fin 100,(outS (qjZ 0 ((i.val:Nat):Int))==some (digI ((i.val:Nat):Int)))=true:=by decide +kernel
theorem qFq:∀ (i0:Int),(qtu i0=true)→∃ n,qjZ n i0=qgt (z171 i0):=fun n h=>⟨0,by
 have hr:=qlC h;obtain⟨k,rfl⟩:∃ k:Nat,n=(k:Int):=⟨n.toNat,by omega⟩;have h1:=eq_of_beq (qFp ⟨k,by omega⟩);unfold z171;revert h1;show outS (qjZ 0 (k:Int))=some (digI (k:Int))→qjZ 0 (k:Int)=qgt (digI (k:Int));generalize digI (k:Int)=r;unfold qjZ qft qiV qiU;intro h1;cases e:decide ((k:Int) < 10) with
 | true =>
  rw[e] at h1;simp only[yc] at h1 ⊢;revert h1;cases (decide ((0:Int)≤(k:Int))&&decide ((k:Int)≤wrap .i64 ((k:Int)+1))&&decide (wrap .i64 ((k:Int)+1)≤_)) with
  | true=>intro h1;exact congrArg qgt (yp h1)
  | false=>intro h1;cases h1
 | false =>
  rw[e] at h1;simp only[yd] at h1 ⊢;revert h1;cases (decide ((0:Int)≤wrap .i64 ((k:Int)*2))&&decide (wrap .i64 ((k:Int)*2)≤wrap .i64 (wrap .i64 ((k:Int)*2)+2))&&decide (wrap .i64 (wrap .i64 ((k:Int)*2)+2)≤_)) with
  | true=>intro h1;exact congrArg qgt (yp h1)
  | false=>intro h1;cases h1⟩
theorem qSW {x:Int} (h:0≤x∧x < 9223372036854775808):wrap .u64 x=x:=IntWalk.u64_in x (by omega)
theorem qFr:∀ (dst0:LU) (i1:Int) (base2:Int),(qkr dst0 i1 base2=true)→∃ n,qzz n dst0 i1 base2=qzx (z161 dst0 i1 base2):=fun dst n b h=>⟨0,by
 unfold qkr at h;simp only[yf] at h;obtain⟨h1,h2,h3⟩:=h;have hr:=qlC h2;have hd:=qqh n;have hl:=qf h1;unfold qzz;rw[h3,dT hr.2,wr (x:=n) (by omega)];unfold z171 room;rw[show qtu n=true from h2,dT (by omega)];rfl⟩
theorem qFs:∀ (dst0:LU) (i1:Int) (base2:Int),(qob dst0 i1 base2=true)→∃ n,qzA n dst0 i1 base2=qzx (z141 dst0 i1 base2):=fun dst n b h=>⟨0,by
 have h':=h;unfold qob at h;simp only[yf] at h;have hr:=qlC h.2.1;unfold qzA;rw[dF (show ¬ n < 0 by omega),qSW (x:=n) (by omega),show qkr dst n b=true from h'];rfl⟩
theorem qFt:∀ (dst0:LU) (i1:Int) (base2:Int),(qoc dst0 i1 base2=true)→∃ n,qzC n dst0 i1 base2=qzx (z107 dst0 i1 base2):=fun dst n b h=>⟨0,by
 unfold qzC;rw[show qob dst n b=true from h];rfl⟩
theorem qLF:∀ (p0:LU×(Int×(Bool×(LU×Unit)))),(qAW p0=true)→∃ n,qKF n p0=qGY (z74 p0):=fun p h=>⟨0,by
 unfold qAW at h;simp only[yf,ym] at h;obtain⟨h1,h2⟩:=h;have hl:=qbr h1;have hd:=qqh p.2.1;unfold qKF qdX z74 nameL room;rw[show qaH p.1=true from qe (by omega)];unfold z20 z107
 by_cases hn:0≤p.2.1
 ·rw[show qoc (p.1++[42]) p.2.1 10=true from by
   unfold qoc;rw[qe (by simp;omega),qSV ⟨hn,h2⟩];rfl]
  rw[dT hn];simp only[yn,yg,List.length_nil];rw[dT (by omega),dT (by omega)];simp only[yi,yc];cases p.2.2.1 with
  | true=>simp only[yc,yl,List.singleton_append]
  | false=>simp only[yd,yl,List.singleton_append,yG]
 ·rw[dF hn];simp only[yn,yg,List.length_nil];rw[dT (by omega)];simp only[yi,yc,yd,yG];cases p.2.2.1 <;> simp⟩
theorem qLG:∀ (name0:LU) (n1:Int) (charset2:Int),(qhh name0 n1 charset2=true)→∃ n,qQQ n name0 n1 charset2=qzx (z51 name0 n1 charset2):=fun name n cs h=>⟨0,by
 have h':=h;unfold qhh at h;simp only[yf,ym] at h;obtain⟨h1,h2⟩:=h;have hl:=qbr h1;have hd:=qzY name n true;have hc:=qiZ cs;unfold qQQ qfu z51 headL room;rw[show qAW (name,(n,(true,(([]:LU),()))))=true from h'];unfold z74;simp only[yn,yg,List.length_nil]
 by_cases hn:0 < n
 ·rw[dT hn];simp (disch:=omega) only [dT,yi,yc]
 ·rw[dF hn];simp (disch:=omega) only [dT,yi,yc,yd,yl,List.singleton_append,List.cons_append,List.nil_append]⟩
theorem qRc (n:Nat):decide ((0:Int) < (n:Int))=decide (0 < n):=by
 rcases Nat.eq_zero_or_pos n with rfl | h
 ·rfl
 ·rw[dT (show (0:Int) < (n:Int) by omega),dT h]
theorem qLH:∀ (name0:LU),(qGz name0=true)→∃ n,qQx n name0=qga (z64 name0):=fun s h=>⟨0,by
 unfold qQx z64 mayN;rw[qRc,show decide (((s.length:Nat):Int)≤30)=decide (s.length≤30) from qLw _ 30,show qju s 256=true from h];unfold z31;cases decide (0 < s.length) <;> cases decide (s.length≤30) <;> rfl⟩
theorem qLI:∀ (s0:LI) (v1:Int),(qGA s0 v1=true)→∃ n,qQC n s0 v1=qga (z66 s0 v1):=fun s v h=>⟨0,by
 unfold qQC;rw[show quM s v=true from h];rfl⟩
theorem qLJ:∀ (c0:Int),∃ n,qQy n c0=qga (z95 c0):=fun c=>⟨0,by
 unfold qQy z95;cases decide (c < 32) <;> rfl⟩
theorem qqj:∀ (t:LI),(qei t=true)→∃ n,qfs n t=qyD (qy t):=fun t h=>⟨t.length+1,by
 have hl:=qf (l:=t) h;unfold qfs qy;refine qgC (qcO (L:=fun n i=>qcs qyD (qey (t.length+1)) n t ((t.length:Nat):Int) i) hl (fun n i hi=>?_) (fun n=>?_) t.length 0 (t.length+1) (by omega) (by omega)) rfl
 ·show qbe _ _ _ n _ _ _=_;unfold qbe;simp (disch:=omega) only [dT,yc,yi,tn,ql];cases z95 (t.getD i 0) <;> rfl
 ·show qbe _ _ _ n _ _ _=_;unfold qbe;rw[dF (by omega)];rfl⟩
theorem qja (p:Int→Bool):∀ (t:LI) (i:Nat),decide (0≤qai (fun c => !(p c)) t i)=t.any p
 | [],i=>rfl
 | c :: r,i=>by
  have hstep:qai (fun c => !(p c)) (c :: r) (i:Int)=bif !(p c) then qai (fun c => !(p c)) r ((i+1:Nat):Int) else (i:Int):=rfl
  rw[hstep,List.any_cons];cases p c with
  | true =>
   simp only[Bool.not_true,yd,Bool.true_or];exact dT (by omega)
  | false =>
   simp only[Bool.not_false,yc,Bool.false_or];exact qja p r (i+1)
theorem qLK:∀ (s0:LI),(qGB s0=true)→∃ n,qQE n s0=qga (z94 s0):=fun s h=>⟨0,by
 unfold qQE z94 qy;rw[show qei s=true from h,show decide ((0:Int)≤qai (fun c => !(z95 c)) s 0)=s.any z95 from qja _ s 0];rfl⟩
theorem qLL:∀ (t0:LI),(qGC t0=true)→∃ n,qQF n t0=qga (z67 t0):=fun t h=>⟨0,by
 unfold qQF;rw[show qGB t=true from h];rfl⟩
theorem qRd (v:Int):∀ t:LI,(t.any fun x=>v==x)=t.contains v
 | []=>rfl
 | c :: r=>by rw[List.any_cons,List.contains_cons,qRd v r]
theorem qux (t:LI) (v:Int):z66 t v=t.contains v:=by
 unfold z66 z93;rw[show decide ((0:Int)≤qai (fun x => !(v==x)) t 0)=t.any (fun x=>v==x) from qja _ t 0,qRd]
theorem qLM:∀ (name0:LU) (t1:LI),(quX name0 t1=true)→∃ n,qQD n name0 t1=qyD (z47 name0 t1):=fun name t h=>⟨0,by
 unfold quX at h;simp only[yf] at h;unfold qQD z47 qjx;rw[show qGz name=true from h.1,show quN t=true from h.2,show qGA t 0=true from h.2,qux,show z64 name=mayN name from rfl];cases mayN name <;> cases z65 t <;> cases t.contains 0 <;> rfl⟩
theorem qLN:∀ (name0:LU) (t1:LI),(quY name0 t1=true)→∃ n,qQI n name0 t1=qpR (z48 name0 t1).1 (z48 name0 t1).2:=fun name t h=>⟨0,by
 unfold quY at h;simp only[yf] at h;have hn:=qbr h.1;have ht:=qbr h.2;have h1:=qlz t;have h2:=qzZ (z68 t).1;unfold qQI z48 qjy room;rw[show qGC t=true from qe (by omega),show quO t=true from qe (by omega),show qaH name=true from qe (by omega),show qGy (z68 t).1=true from qcP (by omega)];unfold z20 z69;cases z67 t with
 | false=>rfl
 | true =>
  simp only[yn,yg,List.length_nil];simp (disch:=omega) only [dT,yi,yc,yd,Bool.not_true,yl,List.singleton_append];rw[show (((name.length+(0+1)+(atomL (z68 t).1).length:Nat)):Int)=((name.length+((atomL (z68 t).1).length+1):Nat):Int) by omega];rw[show decide (((name.length+((atomL (z68 t).1).length+1):Nat):Int)≤74)=decide (name.length+((atomL (z68 t).1).length+1)≤74) from qLw _ 74]⟩
theorem qLO:∀ (charset0:Int) (t1:LI),(qGD charset0 t1=true)→∃ n,qEj n charset0 t1=qHP (z50 charset0 t1):=fun cs t h=>⟨t.length+1,by
 have hl:=qbr h;unfold qEj z50;have:=qfw (t:=t) (dv:=0) (f:=fun c=>[unitL cs c]) (b:=1) (M:=4000) (k0:=qlv (t.length+1)) (L:=fun n out i=>qus (qlv (t.length+1)) n cs t out ((t.length:Nat):Int) i) (fun x _=>yv _) (fun n i out hi hb=>by
  show qgs _ _ n _ _ _ _ _=_;unfold qgs qbz room;rw[ql (i:=i) (by omega),tn,tn,qLz hi (0:Int)];have h2:=qnF cs [t.getD i 0];simp only[yg,List.length_nil] at h2 ⊢;rw[show qGe cs [t.getD i 0]=true from rfl,show qGw (z72 cs [t.getD i 0]).1=true from qcP (by omega)];simp (disch:=omega) only [dT,yc,yi];rfl) (fun n out=>by
  show qgs _ _ n _ _ _ _ _=_;unfold qgs qbz;rw[dF (by omega)];rfl) t.length 0 (t.length+1) [] (by omega) (by omega) (by simp;omega)
 refine this.trans ?_;rw[yw,qLA];rfl⟩
theorem qLP:∀ (u0:LU) (x1:Bool) (x2:LU) (x3:List LU) (x4:LU) (x5:Int),(quZ u0 x1 x2 x3 x4 x5=true)→∃ n,qKG n u0 x1 x2 x3 x4 x5=qsq (z77 u0 x1 x2 x3 x4 x5).1 (z77 u0 x1 x2 x3 x4 x5).2.1 (z77 u0 x1 x2 x3 x4 x5).2.2.1 (z77 u0 x1 x2 x3 x4 x5).2.2.2.1 (z77 u0 x1 x2 x3 x4 x5).2.2.2.2:=fun u e now out name cs h=>⟨0,by
 unfold quZ at h;simp only[yf,ym] at h;obtain⟨⟨h1,h2⟩,h3,h4⟩:=h;have hu:=qbr h1;have hn:=qf h2;have hm:=qbr h4;have hh:=qnE name ((out.length+1:Nat):Int) (z75 cs);have hc:=qiZ cs;unfold qKG z77 putU room;have hwr:wrap .i64 (((now.length:Nat):Int)+((u.length:Nat):Int))=((now.length+u.length:Nat):Int):=by rw[wr (by omega)];omega
 rw[hwr,show decide ((74:Int) < ((now.length+u.length:Nat):Int))=decide (74 < now.length+u.length) from by
  by_cases hx:74 < now.length+u.length
  ·rw[dT hx,dT (by omega)]
  ·rw[dF hx,dF (by omega)]]
 unfold z51;simp only[yn,yg,List.length_nil,yE];rw[show qhh name ((out.length+1:Nat):Int) cs=true from by
  unfold qhh;rw[h4,dT (by omega)];rfl]
 cases e with
 | true =>
  simp (disch:=omega) only [dT,yc,yd,yi,Bool.not_true,y5]
 | false =>
  simp only[Bool.not_false,yc,y6];cases decide (74 < now.length+u.length) with
  | true=>simp (disch:=omega) only [dT,yc,yd,yi]
  | false=>simp (disch:=omega) only [dT,yc,yd,yi]⟩
theorem qAd (name:LU) (cs:Int) (l:List LU) (hn:name.length≤1000) (hl:l.length≤100) (hu:∀ u∈l,u.length≤75) (k0:List LU→LU→OA):∀ (d i n:Nat) (st:PutT),i+d=l.length→d < n→PutI name (z75 cs) i st →
 qut k0 n name cs st.2.2 st.2.1 st.1 l ((l.length:Nat):Int) (i:Int)=k0 ((l.drop i).foldl (putU name (z75 cs)) st).2.2 ((l.drop i).foldl (putU name (z75 cs)) st).2.1
 | d,i,0,st,hi,hd,_=>by omega
 | 0,i,n+1,st,hi,hd,_=>by
  show qgu _ _ n _ _ _ _ _ _ _ _=_;unfold qgu qaF;rw[dF (by omega),yA (by omega)];rfl
 | d+1,i,n+1,st,hi,hd,h=>by
  show qgu _ _ n _ _ _ _ _ _ _ _=_;unfold qgu qaF;have hlt:i < l.length:=by omega
  have hm:l.getD i []∈l:=by rw[yY,yO hlt];exact List.getElem_mem hlt
  have hu':=hu _ hm;have hc:=qiZ cs;have h2:=h.n;have h3:=h.l;rw[qx (d:=([]:LU)) hlt,List.foldl_cons];simp (disch:=omega) only [dT,yc,yi,tn,ql];rw[show quZ (l.getD i []) st.1 st.2.1 st.2.2 name cs=true from by
   unfold quZ;rw[qcP (l:=l.getD i []) (by omega),qe (l:=st.2.1) (by omega),qcP (l:=name) (by omega),dT (show st.2.2.length < 99 by
    cases e:st.1 with
    | true =>
     have hi0:=h.e e;rw[e] at h2;simp only[yc] at h2;omega
    | false =>
     rw[e] at h2;simp only[yd] at h2;omega)]
   rfl]
  exact qAd name cs l hn hl hu k0 d (i+1) n (putU name (z75 cs) st (l.getD i [])) (by omega) (by omega) (qAb h hu' (by omega))
theorem qLQ:∀ (name0:LU) (charset1:Int) (l2:List LU),(qva name0 charset1 l2=true)→∃ n,qEk n name0 charset1 l2=qHQ (z53 name0 charset1 l2):=fun name cs l h=>⟨l.length+1,by
 unfold qva at h;simp only[yf,ym,List.all_eq_true] at h;obtain⟨h1,h2,h3⟩:=h;have hn:=qbr h1;unfold qEk z53 numL;rw[show qhh name 0 cs=true from by unfold qhh;rw[h1];rfl];have:=qAd name cs l hn h2 h3 (qlw (l.length+1)) l.length 0 (l.length+1) (true,(headL name 0 (z75 cs),[])) (by omega) (by omega) (qlA _ _);refine Eq.trans (this:_) ?_;rw[yw];have ho:=qqi name (z75 cs) l (true,(headL name 0 (z75 cs),[]));unfold qlw room;simp only[yg,List.length_nil] at ho ⊢;rw[dT (by omega)];rfl⟩
theorem qsC:∀ l:List LU,joinB [] l=l.flatten
 | []=>rfl
 | [a]=>by simp[joinB]
 | a :: b :: l=>by
  show a++[]++joinB [] (b :: l)=_;rw[qsC (b :: l)];simp
theorem qkf:∀ l:List LU,(∀ u∈l,u.length≤75)→l.flatten.length≤75*l.length
 | [],_=>by simp
 | a :: l,h=>by
  have h1:=qkf l fun u hu=>h u (List.mem_cons_of_mem _ hu);have h2:=h a List.mem_cons_self;rw[List.flatten_cons,yn,yg];omega
theorem qLR:∀ (name0:LU) (t1:LI),(qGE name0 t1=true)→∃ n,qQR n name0 t1=qka (z32 name0 t1).1 (z32 name0 t1).2:=fun name t h=>⟨0,by
 obtain⟨hn,ht⟩:=qnG h;have hun:=qHY (z49 t).1 t;have hu:=qsA (z49 t).1 t;have hfl:=qkf _ hu;have hh:=qnE name (-1) (z75 (z49 t).1);have hc:=qiZ (z49 t).1;unfold qQR qhJ z32 qad room;rw[show quX name t=true from by unfold quX;rw[qe (by omega),qe (by omega)];rfl,
  show quY name t=true from by unfold quY;rw[qcP (by omega),qcP (by omega)];rfl,
  show qFY t=true from qe (by omega),show qGD (z49 t).1 t=true from qcP (by omega),
  show qhh name (-1) (z49 t).1=true from by unfold qhh;rw[qcP (by omega)];rfl,
  show quL (z50 (z49 t).1 t) []=true from by
   unfold quL;rw[dT (by omega),List.all_eq_true.2 (fun u hx=>yo (hu u hx))];rfl,
  show qva name (z49 t).1 (z50 (z49 t).1 t)=true from by
   unfold qva;rw[qcP (by omega),dT (by omega),List.all_eq_true.2 (fun u hx=>yo (hu u hx))];rfl,
  show z52 (z50 (z49 t).1 t) []=(z50 (z49 t).1 t).flatten from qsC _,
  show z47 name t=qjx name t from rfl,show z51 name (-1) (z49 t).1=headL name (-1) (z75 (z49 t).1) from rfl,
  show z53 name (z49 t).1 (z50 (z49 t).1 t)=numL name (z75 (z49 t).1) (z50 (z49 t).1 t) from rfl]
 rw[show decide (((List.length (headL name (-1) (z75 (z49 t).1)++(z50 (z49 t).1 t).flatten):Nat):Int)≤74)=decide ((headL name (-1) (z75 (z49 t).1)++(z50 (z49 t).1 t).flatten).length≤74) from qLw _ 74,
  dT (show (headL name (-1) (z75 (z49 t).1)).length+(z50 (z49 t).1 t).flatten.length≤1073741824 by omega)]
 cases hq:qjx name t != 0 with
 | true=>rfl
 | false =>
  simp only[yi,yc,yd];cases hp:(z48 name t).2 with
  | true =>
   have hpl:(z48 name t).1=qjy name t:=by
    unfold z48 at hp ⊢;cases hs:z67 t with
    | true=>rfl
    | false=>rw[hs] at hp;cases hp
   rw[hpl];rfl
  | false =>
   simp only[yd];cases (z49 t).2 != 0 with
   | true=>rfl
   | false =>
    simp only[yd];cases decide ((headL name (-1) (z75 (z49 t).1)++(z50 (z49 t).1 t).flatten).length≤74) <;> rfl⟩
theorem qLS:∀ (name0:LU) (t1:LI),(qGF name0 t1=true)→∃ n,qEl n name0 t1=qzm (z21 name0 t1).1 (z21 name0 t1).2:=fun name t h=>⟨(qad name t).1.length+1,by
 obtain⟨h1,h2⟩:=qlB h;unfold qEl z21;rw[show qGE name t=true from h,show z32 name t=qad name t from rfl];generalize (qad name t).2=e;revert h1 h2;generalize (qad name t).1=l;intro h1 h2;have:=qfw (t:=l) (dv:=([]:LU)) (f:=fun s=>[59,13,10,32]++s) (b:=1004) (M:=200000) (k0:=qlx (l.length+1) e) (L:=fun n out i=>quu (qlx (l.length+1)) n e out l ((l.length:Nat):Int) i) (fun x hx=>by have:=h2 x hx;simp only[yn,yg,List.length_nil];omega) (fun n i out hi hb=>by
  show qgv _ _ n _ _ _ _ _=_;unfold qgv room;have hx:=h2 (l.getD i []) (by rw[yY,yO hi];exact List.getElem_mem hi);simp only[yn,yg,List.length_nil];simp (disch:=omega) only [dT,yc,yi,tn,ql,yl]) (fun n out=>by
  show qgv _ _ n _ _ _ _ _=_;unfold qgv;rw[dF (by omega)];rfl) l.length 0 (l.length+1) [] (by omega) (by omega) (by simp only[List.length_nil];omega)
 refine Eq.trans (this:_) ?_;rw[yw];rfl⟩
end
end Go.Av
