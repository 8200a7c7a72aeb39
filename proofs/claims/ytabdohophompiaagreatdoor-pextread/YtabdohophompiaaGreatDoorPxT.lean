import Derived.Test.YtabdohophompiaaGreatDoorPxSh
import Derived.Test.YtabdohophompiaaGreatDoorEfL
import Derived.Test.YtabdohophompiaaGreatDoorAvE
import Derived.Lib.IndexAny
import Derived.Lib.IndexMore
import Derived.Lib.IndexBytes
import Derived.IntWalk
import Derived.KernelRfl
namespace Go.Av
set_option linter.unusedVariables false
theorem qxi {α:Type} [DecidableEq α] {a b:List α} {i:Nat} (ha:i < a.length) (hb:i < b.length) (d:α):decide (a.drop i=b.drop i)=bif a.getD i d != b.getD i d then false else decide (a.drop (i+1)=b.drop (i+1)):=by
 rw [qC (d:=d) ha,qC (d:=d) hb];generalize a.getD i d=x;generalize b.getD i d=y
 by_cases h:x=y
 ·subst h; simp
 ·simp [h]
theorem qtH (ret:Bool→Option AV) (a b:List UInt8) (hab:a.length=b.length) (hl:a.length≤1048576):∀ (d i n:Nat),i+d=a.length→d < n →
 qja ret (ret true) n a b (i:Nat)=ret (decide (a.drop i=b.drop i))
 | d,i,0,hi,hn=>by omega
 | 0,i,n+1,hi,hn=>by
  show qeL ret (ret true) (qja ret (ret true) n) n a b _=_;unfold qeL;rw [decide_eq_false (by omega),yd,yA (by omega),yA (by omega)];rfl
 | d+1,i,n+1,hi,hn=>by
  show qeL ret (ret true) (qja ret (ret true) n) n a b _=_;unfold qeL;have hlt:i < a.length:=by omega
  have hlt':i < b.length:=by omega
  have ih:=qtH ret a b hab hl d (i+1) n (by omega) (by omega);rw [qtY,yo hlt,yc,qfO,y3,yc,y3,qtY,yo hlt',yc,qm (by omega),qme,ih,qxi hlt hlt' 0];cases (a.getD i 0 != b.getD i 0) <;> rfl
theorem qBr:∀ (a0:List UInt8) (b1:List UInt8),(qqZ a0 b1=true)→∃ n,qxb n a0 b1=qhG (z11 a0 b1):=fun a b h=>⟨a.length+1,by
 unfold qxb z11
 by_cases hab:a.length=b.length
 ·rw [show (((a.length:Nat):Int) != ((b.length:Nat):Int))=false by simp [hab],yd];exact qtH qhG a b hab (qp h) a.length 0 (a.length+1) (by omega) (by omega)
 ·rw [show (((a.length:Nat):Int) != ((b.length:Nat):Int))=true by simp only [bne_iff_ne,ne_eq]; omega,yc,decide_eq_false (fun e=>hab (by rw [e]))]⟩
theorem qxj:∀ (c0:UInt8),∃ n,qtk n c0=qe (z134 c0):=fun c=>⟨0,by
 unfold qtk qbZ qN z134 qmO orI;cases decide (c < (32:UInt8)) <;> cases (c==(127:UInt8)) <;> cases (c==(32:UInt8)) <;> cases (c==(9:UInt8)) <;> cases decide ((48:UInt8)≤c) <;> cases decide (c≤(57:UInt8)) <;> cases decide ((65:UInt8)≤c) <;> cases decide (c≤(90:UInt8)) <;> cases decide ((97:UInt8)≤c) <;> cases decide (c≤(122:UInt8)) <;> rfl⟩
theorem qxk:∀ (s0:List UInt8) (c1:UInt8),∃ n,qyn n s0 c1=qtl (z145 s0 c1):=fun _ _=>⟨0,rfl⟩
theorem qxl:∀ (s0:List UInt8) (c1:UInt8),∃ n,qyo n s0 c1=qtm (z140 s0 c1):=fun _ _=>⟨0,rfl⟩
theorem qxm:∀ (s0:List UInt8) (c1:UInt8),∃ n,qyp n s0 c1=qtn (z135 s0 c1):=fun _ _=>⟨0,rfl⟩
theorem qxn:∀ (c0:UInt8),∃ n,qto n c0=qah (z125 c0):=fun c=>⟨0,by
 unfold qto qbc qca qaB z125 quS orI;cases decide (c < (33:UInt8)) <;> cases decide ((126:UInt8) < c) <;> cases z135 [33,42,43,45,47] c <;> cases z135 [43,47] c <;> cases z135 [40,41,60,62,64,44,59,58,92,34,47,91,93,63,61] c <;> cases z135 [42,39,37] c <;> rfl⟩
theorem qxo:∀ (c0:UInt8) (kinds1:Int),∃ n,qyq n c0 kinds1=qtp (z100 c0 kinds1):=fun _ _=>⟨0,rfl⟩
theorem dT {p:Prop} [Decidable p] (h:p):decide p=true:=yo h
theorem dF {p:Prop} [Decidable p] (h:¬ p):decide p=false:=decide_eq_false h
theorem wr {x:Int} (h : -9223372036854775808≤x∧x≤9223372036854775807):IntKind.wrap .i64 x=x:=IntWalk.i64_in x h
theorem tn (i:Nat):Int.toNat (i:Int)=i:=Int.toNat_natCast i
theorem qy {α:Type} {l:List α} (h:l.length≤1048576):lenOk l=true:=by unfold lenOk; rw [ym]; exact h
theorem qkH (p:UInt8→Bool) (s:List UInt8):(((s.countP p:Nat):Int)==((s.length:Nat):Int))=s.all p:=by
 rw [Bool.eq_iff_iff];simp only [beq_iff_eq,List.all_eq_true];have:=List.countP_eq_length (p:=p) (l:=s);constructor
 ·intro h; exact this.1 (by omega)
 ·intro h; have:=this.2 h; omega
theorem qtI (ret:Bool→Option AV) (k0:Option AV) (hk:k0=ret false) (s:List UInt8) (c:UInt8) (hl:s.length≤1048576):∀ (d i n:Nat),i+d=s.length→d < n →
 qdK ret k0 n s c (i:Nat)=ret ((s.drop i).contains c)
 | d,i,0,hi,hn=>by omega
 | 0,i,n+1,hi,hn=>by
  show qcw ret k0 (qdK ret k0 n) n _ _ _=_;unfold qcw;rw [dF (by omega),yd,yA (by omega),hk];rfl
 | d+1,i,n+1,hi,hn=>by
  show qcw ret k0 (qdK ret k0 n) n _ _ _=_;unfold qcw;have hlt:i < s.length:=by omega
  have ih:=qtI ret k0 hk s c hl d (i+1) n (by omega) (by omega);rw [qC (d:=(0:UInt8)) hlt,List.contains_cons];simp (disch:=omega) only [dT,yc,yi,tn,qm];rw [ih,show (s.getD i 0==c)=(c==s.getD i 0) from Bool.beq_comm];cases (c==s.getD i 0) <;> rfl
theorem qxp (s:List UInt8) (c:UInt8) (hl:s.length≤1048576):∃ n,qkD n s c=qeM (z126 s c):=⟨s.length+1,by
 unfold qkD;have:=qtI qeM (qdL (s.length+1)) rfl s c hl s.length 0 (s.length+1) (by omega) (by omega);exact this⟩
theorem qxq:∀ (s0:List UInt8) (c1:UInt8),(qxP s0 c1=true)→∃ n,qkD n s0 c1=qeM (z126 s0 c1):=fun s c h=>qxp s c (qp h)
theorem qBs:∀ (c0:UInt8) (kinds1:Int),∃ n,qES n c0 kinds1=qyC (z65 c0 kinds1):=fun _ _=>⟨0,rfl⟩
theorem qcc (k0:Int→Option AV) (s:List UInt8) (k:Int) (hl:s.length≤1048576):∀ (d i n m:Nat),i+d=s.length→d < n→m+d≤1048576 →
 qjf k0 n s k (m:Nat) (i:Nat)=k0 ((m+(s.drop i).countP (fun c=>z100 c k):Nat):Int)
 | d,i,0,m,hi,hn,hm=>by omega
 | 0,i,n+1,m,hi,hn,hm=>by
  show qeS k0 (qjf k0 n) n _ _ _ _=_;unfold qeS;rw [dF (by omega),yd,yA (by omega)];rfl
 | d+1,i,n+1,m,hi,hn,hm=>by
  show qeS k0 (qjf k0 n) n _ _ _ _=_;unfold qeS;have hlt:i < s.length:=by omega
  have ih:=qcc k0 s k hl d (i+1) n m (by omega) (by omega) (by omega);have ih2:=qcc k0 s k hl d (i+1) n (m+1) (by omega) (by omega) (by omega);rw [qC (d:=(0:UInt8)) hlt,List.countP_cons];simp (disch:=omega) only [dT,yc,yi,tn,qm];rw [show z65 (s.getD i 0) k=z100 (s.getD i 0) k from rfl];cases z100 (s.getD i 0) k with
  | true=>rw [yc,ih2]; congr 2; simp; omega
  | false=>rw [yd,ih]; congr 2
theorem qBt:∀ (s0:List UInt8) (kinds1:Int),(quU s0 kinds1=true)→∃ n,qxf n s0 kinds1=qyE (z37 s0 kinds1):=fun s k h=>⟨s.length+1,by
 have hl:=qp h;unfold qxf;have:=qcc (qgT (s.length+1)) s k hl s.length 0 (s.length+1) 0 (by omega) (by omega) (by omega);refine Eq.trans this ?_;rw [yE,yw];rfl⟩
theorem qlX {P:UInt8→Prop} (h:∀ i:Fin 256,P (UInt8.ofNat i.val)) (c:UInt8):P c:=by
 have:=h ⟨c.toNat,c.toNat_lt⟩;simpa using this
theorem and15 (n:Int):bits .and .i64 n 15=n % 16:=by
 have h:(BitVec.ofInt 64 n &&& BitVec.ofInt 64 15).toNat=(n % 16).toNat:=by
  rw [BitVec.toNat_and];have h1:(BitVec.ofInt 64 15).toNat=2 ^ 4 - 1:=by decide
  rw [h1,Nat.and_two_pow_sub_one_eq_mod,BitVec.toNat_ofInt];omega
 show IntKind.wrap .i64 (((BitVec.ofInt 64 n &&& BitVec.ofInt 64 15).toNat:Nat):Int)=_;rw [h,IntWalk.i64_in _ (by omega)];omega
theorem qxr:∀ (n0:Int),(qcH n0=true)→∃ n,qts n n0=qtr (z132 n0):=fun n _=>⟨0,by
 unfold qts z132;rw [and15];have h0:(0:Int)≤n % 16:=by omega
 have h1:n % 16 < (((([48,49,50,51,52,53,54,55,56,57,65,66,67,68,69,70]:List UInt8).length:Nat)):Int):=by simp; omega
 rw [yo h0,yo h1];rfl⟩
theorem qET {P:UInt8→Prop} (h:∀ i:Fin 256,P (UInt8.ofNat i.val)) (c:UInt8):P c:=by
 have:=h ⟨c.toNat,c.toNat_lt⟩;simpa using this
theorem qtJ:∀ i:Fin 256,[z132 (IntKind.wrap .i64 ((UInt8.toNat (UInt8.ofNat (UInt8.toNat (UInt8.ofNat i.val) / 2 ^ (min (Int.toNat (4:Int)) 8))):Nat):Int)),z132 (IntKind.wrap .i64 ((UInt8.toNat (UInt8.ofNat i.val):Nat):Int))]=z116 (UInt8.ofNat i.val):=by decide +kernel
theorem qpC:∀ i:Fin 256,qhw (IntKind.wrap .i64 (Int.tdiv (IntKind.wrap .i64 ((UInt8.toNat (UInt8.ofNat i.val):Nat):Int)) (16:Int)))=true∧qhw (Int.tmod (IntKind.wrap .i64 ((UInt8.toNat (UInt8.ofNat i.val):Nat):Int)) (16:Int))=true ∧
 qcH (IntKind.wrap .i64 ((UInt8.toNat (UInt8.ofNat (UInt8.toNat (UInt8.ofNat i.val) / 2 ^ (min (Int.toNat (4:Int)) 8))):Nat):Int))=true∧qcH (IntKind.wrap .i64 ((UInt8.toNat (UInt8.ofNat i.val):Nat):Int))=true:=by decide +kernel
theorem boths (c:UInt8):[z132 (IntKind.wrap .i64 ((UInt8.toNat (UInt8.ofNat (UInt8.toNat c / 2 ^ (min (Int.toNat (4:Int)) 8))):Nat):Int)),z132 (IntKind.wrap .i64 ((UInt8.toNat c:Nat):Int))]=z116 c:=qET (P:=fun c=>[z132 (IntKind.wrap .i64 ((UInt8.toNat (UInt8.ofNat (UInt8.toNat c / 2 ^ (min (Int.toNat (4:Int)) 8))):Nat):Int)),z132 (IntKind.wrap .i64 ((UInt8.toNat c:Nat):Int))]=z116 c) qtJ c
theorem qHg (c:UInt8):qhw (IntKind.wrap .i64 (Int.tdiv (IntKind.wrap .i64 ((UInt8.toNat c:Nat):Int)) (16:Int)))=true∧qhw (Int.tmod (IntKind.wrap .i64 ((UInt8.toNat c:Nat):Int)) (16:Int))=true ∧
 qcH (IntKind.wrap .i64 ((UInt8.toNat (UInt8.ofNat (UInt8.toNat c / 2 ^ (min (Int.toNat (4:Int)) 8))):Nat):Int))=true∧qcH (IntKind.wrap .i64 ((UInt8.toNat c:Nat):Int))=true:=qET (P:=fun c=>qhw (IntKind.wrap .i64 (Int.tdiv (IntKind.wrap .i64 ((UInt8.toNat c:Nat):Int)) (16:Int)))=true∧qhw (Int.tmod (IntKind.wrap .i64 ((UInt8.toNat c:Nat):Int)) (16:Int))=true ∧
 qcH (IntKind.wrap .i64 ((UInt8.toNat (UInt8.ofNat (UInt8.toNat c / 2 ^ (min (Int.toNat (4:Int)) 8))):Nat):Int))=true∧qcH (IntKind.wrap .i64 ((UInt8.toNat c:Nat):Int))=true) qpC c
theorem qxs:∀ (c0:UInt8),∃ n,qtu n c0=qtt (z116 c0):=fun c=>⟨0,by
 obtain ⟨_,_,h1,h2⟩:=qHg c;unfold qtu;rw [h1,h2,boths];rfl⟩
theorem qBu:∀ (b0:List UInt8) (sign1:UInt8) (c2:UInt8),(quK b0 sign1 c2=true)→∃ n,qAR n b0 sign1 c2=qyr (z80 b0 sign1 c2):=fun b sign c h=>⟨0,by
 have hl:=qp h;unfold qAR z80 qgt z53;rw [show lenOk b=true from h,yi,yc,yo (by unfold room; simp; omega),yc,yo (by unfold room z116; simp; omega),yc,yl];rfl⟩
theorem beqF {a b:Int} (h:a≠b):(a==b)=false:=by simp [h]
theorem qxt (s:List UInt8):z11 s s=true:=by unfold z11; exact dT rfl
def okc (c:UInt8):Bool:=(c==13)||(c==10)||(c==9)||(decide (32≤c)&&decide (c≤126))
set_option linter.unusedSimpArgs false
theorem qbE {t:List Int} {p:Int→Bool} {k0:Option AV} {ret:Int→Option AV} {L:Nat→Int→Option AV} (hl:t.length≤1048576)
 (hL:∀ n (i:Nat),i < t.length→L (n+1) (i:Int)=bif p (t.getD i 0) then L n ((i+1:Nat):Int) else ret (i:Int)) (hE:∀ n,L (n+1) (t.length:Nat)=k0) :
 ∀ d i n:Nat,i+d=t.length→d < n→L n (i:Int)=bif qaC p (t.drop i) i == -1 then k0 else ret (qaC p (t.drop i) i)
 | d,i,0,hi,hn=>by omega
 | 0,i,n+1,hi,hn=>by
  obtain rfl:i=t.length:=by omega
  rw [hE,yA (by omega)];rfl
 | d+1,i,n+1,hi,hn=>by
  have hlt:i < t.length:=by omega
  rw [hL n i hlt,qbE hl hL hE d (i+1) n (by omega) (by omega),qC (d:=(0:Int)) hlt];rw [show qaC p (t.getD i 0 :: t.drop (i+1)) (i:Int)=bif p (t.getD i 0) then qaC p (t.drop (i+1)) ((i+1:Nat):Int) else (i:Int) from rfl];cases p (t.getD i 0) with
  | true=>rfl
  | false =>
   have:((i:Int) == -1)=false:=by simp only [beq_eq_false_iff_ne,ne_eq]; omega
   simp [this]
theorem qxu:∀ (n0:Int),∃ n,qtg n n0=qgH (z129 n0):=fun c=>⟨0,by
 unfold qtg z129;cases (c==(2:Int)) <;> cases (c==(3:Int)) <;> cases (c==(4:Int)) <;> rfl⟩
theorem qxv:∃ n,qyf n  = qsQ z130:=⟨0,rfl⟩
theorem qxw:∃ n,qyh n  = qsT z131:=⟨0,rfl⟩
theorem qBv {α β:Type} (f:α→β) (t:List α) (z:β) (i:Nat) (h:i < t.length) (d:α) :
 ((t.take i).map f++List.replicate (t.length - i) z).set i (f (t.getD i d))=(t.take (i+1)).map f++List.replicate (t.length - (i+1)) z:=by
 rw [List.set_append_right _ _ (by simp; omega)];have h1:((t.take i).map f).length=i:=by simp; omega
 rw [h1,Nat.sub_self,show t.length - i=(t.length - (i+1))+1 by omega,List.replicate_succ,List.set_cons_zero,List.take_succ_eq_append_getElem h,List.map_append,yl];simp [List.getD,h]
theorem qgW {α β:Type} {t:List α} {dv:α} {f:α→List β} {q:α→Bool} {k0:List β→Option AV} {R:Option AV} {L:Nat→List β→Int→Option AV} {b:Nat} (hf:∀ x,(f x).length≤b)
 (hL:∀ (n i:Nat) (out:List β),i < t.length→out.length+b≤room→L (n+1) out (i:Int)=bif q (t.getD i dv) then L n (out++f (t.getD i dv)) ((i+1:Nat):Int) else R) (hE:∀ n out,L (n+1) out ((t.length:Nat):Int)=k0 out) :
 ∀ (d i n:Nat) (out:List β),i+d=t.length→d < n→out.length+b*d≤room→L n out (i:Int)=bif (t.drop i).all q then k0 (out++(t.drop i).flatMap f) else R
 | d,i,0,out,hi,hn,_=>by omega
 | 0,i,n+1,out,hi,hn,_=>by
  obtain rfl:i=t.length:=by omega
  rw [hE,yA (by omega)];simp
 | d+1,i,n+1,out,hi,hn,hb=>by
  have hlt:i < t.length:=by omega
  have hx:=hf (t.getD i dv);have hb':b*(d+1)=b*d+b:=by rw [Nat.mul_succ]
  have h0:0≤b*d:=Nat.zero_le _;rw [hL n i out hlt (by omega),qgW (α:=α) (β:=β) hf hL hE d (i+1) n _ (by omega) (by omega) (by rw [yn]; omega),qC (d:=dv) hlt];simp only [List.all_cons,List.flatMap_cons,yl];cases q (t.getD i dv) <;> rfl
theorem qBw:∀ (charset0:Int),∃ n,qBd n charset0=qgP (z96 charset0):=fun cs=>⟨0,by
 unfold qBd z96;cases (cs==(1:Int)) <;> cases (cs==(2:Int)) <;> cases (cs==(3:Int)) <;> cases (cs==(4:Int)) <;> cases (cs==(5:Int)) <;> rfl⟩
theorem qBx:∀ (charset0:Int),∃ n,qBe n charset0=qtC (z56 charset0):=fun cs=>⟨0,by
 unfold qBe z56 z96;cases (cs==(1:Int)) <;> cases (cs==(2:Int)) <;> cases (cs==(3:Int)) <;> cases (cs==(4:Int)) <;> cases (cs==(5:Int)) <;> rfl⟩
theorem qcX (cs:Int):(z56 cs).length≤12:=by
 unfold z56 z96;cases (cs==(1:Int)) <;> cases (cs==(2:Int)) <;> cases (cs==(3:Int)) <;> cases (cs==(4:Int)) <;> cases (cs==(5:Int)) <;> decide
theorem qlY {α β:Type} (f:α→β):∀ l:List α,l.flatMap (fun x=>[f x])=l.map f
 | []=>rfl
 | x :: r=>by rw [List.flatMap_cons,qlY f r]; rfl
theorem qtK {α:Type}:∀ l:List α,l.all (fun _=>true)=true
 | []=>rfl
 | _ :: r=>by rw [List.all_cons,qtK r]; rfl
theorem qxx:∀ (c0:Int),∃ n,qsW n c0=qlE (z127 c0):=fun c=>⟨0,by
 unfold qsW z127;cases decide ((55296:Int)≤c) <;> rfl⟩
theorem qxy:∀ (c0:Int),∃ n,qsX n c0=qlF (z108 c0):=fun c=>⟨0,by
 unfold qsX z108;cases decide (IntKind.wrap .u32 c≤1114111) <;> rfl⟩
theorem qxz:∀ (c0:Int),∃ n,qyk n c0=qte (z122 c0):=fun _=>⟨0,rfl⟩
theorem qeY {p:Int→Bool} {t:List Int} {k0:Option AV} {ret:Int→Option AV} {x:Option AV} (h:x=bif qaC p (t.drop 0) (0:Nat) == -1 then k0 else ret (qaC p (t.drop 0) (0:Nat))) (hk:k0=ret (-1)):x=ret (qaC p t 0):=by
 rw [h,yw];cases e:(qaC p t (0:Nat) == -1) with
 | true =>
  rw [beq_iff_eq] at e;have e':qaC p t 0 = -1:=e;rw [e',hk];rfl
 | false=>rfl
theorem qBy:∀ (s0:List Int) (v1:Int),(qoG s0 v1=true)→∃ n,qwO n s0 v1=qkz (z89 s0 v1):=fun t v h=>⟨t.length+1,by
 have hl:=qp (l:=t) h;unfold qwO z89;refine qeY (qbE (L:=fun n i=>qlD qkz (qgD (t.length+1)) n t v ((t.length:Nat):Int) i) hl (fun n i hi=>?_) (fun n=>?_) t.length 0 (t.length+1) (by omega) (by omega)) rfl
 ·show qeo _ _ _ n _ _ _ _=_;unfold qeo;simp (disch:=omega) only [dT,yc,yi,tn,qm];cases (v==t.getD i 0) <;> rfl
 ·show qeo _ _ _ n _ _ _ _=_;unfold qeo;rw [dF (by omega)];rfl⟩
theorem qlZ:∀ (t:List Int),(qcI t=true)→∃ n,qdF n t=qbv (z121 t):=fun t h=>⟨t.length+1,by
 have hl:=qp (l:=t) h;unfold qdF z121;refine qeY (qbE (L:=fun n i=>qaW qbv (qaX (t.length+1)) n t ((t.length:Nat):Int) i) hl (fun n i hi=>?_) (fun n=>?_) t.length 0 (t.length+1) (by omega) (by omega)) rfl
 ·show qaw _ _ _ n _ _ _=_;unfold qaw;simp (disch:=omega) only [dT,yc,yi,tn,qm];unfold z122;cases z108 (t.getD i 0) <;> rfl
 ·show qaw _ _ _ n _ _ _=_;unfold qaw;rw [dF (by omega)];rfl⟩
theorem qxA:∀ (t:List Int),(qmM t=true)→∃ n,qnW n t=qgJ (z114 t):=fun t h=>⟨t.length+1,by
 have hl:=qp (l:=t) h;unfold qnW z114;refine qeY (qbE (L:=fun n i=>qgK qgJ (qdH (t.length+1)) n t ((t.length:Nat):Int) i) hl (fun n i hi=>?_) (fun n=>?_) t.length 0 (t.length+1) (by omega) (by omega)) rfl
 ·show qcu _ _ _ n _ _ _=_;unfold qcu;simp (disch:=omega) only [dT,yc,yi,tn,qm];cases z107 (t.getD i 0) <;> rfl
 ·show qcu _ _ _ n _ _ _=_;unfold qcu;rw [dF (by omega)];rfl⟩
theorem qBz:∀ (t:List Int),(quM t=true)→∃ n,qwR n t=qkA (z92 t):=fun t h=>⟨t.length+1,by
 have hl:=qp (l:=t) h;unfold qwR z92;refine qeY (qbE (L:=fun n i=>qlH qkA (qgE (t.length+1)) n t ((t.length:Nat):Int) i) hl (fun n i hi=>?_) (fun n=>?_) t.length 0 (t.length+1) (by omega) (by omega)) rfl
 ·show qer _ _ _ n _ _ _=_;unfold qer;simp (disch:=omega) only [dT,yc,yi,tn,qm];cases z105 (t.getD i 0) <;> rfl
 ·show qer _ _ _ n _ _ _=_;unfold qer;rw [dF (by omega)];rfl⟩
theorem qxB:∀ (cs:Int) (t:List Int),(qmN cs t=true)→∃ n,qnV n cs t=qgF (z111 cs t):=fun cs t h=>⟨t.length+1,by
 have hl:=qp (l:=t) h;unfold qnV z111;refine qeY (qbE (L:=fun n i=>qgG qgF (qdE (t.length+1)) n cs t ((t.length:Nat):Int) i) hl (fun n i hi=>?_) (fun n=>?_) t.length 0 (t.length+1) (by omega) (by omega)) rfl
 ·show qct _ _ _ n _ _ _ _=_;unfold qct;simp (disch:=omega) only [dT,yc,yi,tn,qm];cases z72 cs (t.getD i 0) <;> rfl
 ·show qct _ _ _ n _ _ _ _=_;unfold qct;rw [dF (by omega)];rfl⟩
theorem qBA:∀ (t0:List Int),(quL t0=true)→∃ n,qAN n t0=qyl (z88 t0):=fun t h=>⟨0,by
 unfold qAN;rw [show qcI t=true from h];rfl⟩
theorem qBB:∀ (t0:List Int),(qoH t0=true)→∃ n,qAO n t0=qym (z49 t0):=fun t h=>⟨0,by
 unfold qAO;rw [show quL t=true from h];rfl⟩
theorem qxC:∀ (c0:Int),∃ n,qtf n c0=qeu (z128 c0):=fun c=>⟨0,by
 unfold qtf z128;cases z108 c <;> cases decide (c < (128:Int)) <;> cases decide (c < (2048:Int)) <;> cases decide (c < (65536:Int)) <;> rfl⟩
theorem qkI (c:Int):z128 c=0∨z128 c=1∨z128 c=2∨z128 c=3∨z128 c=4:=by
 unfold z128;cases z108 c <;> cases decide (c < (128:Int)) <;> cases decide (c < (2048:Int)) <;> cases decide (c < (65536:Int)) <;> simp
theorem qxD:∀ (b0:List UInt8) (c1:Int),(qmL b0 c1=true)→∃ n,qth n b0 c1=qev (z112 b0 c1).1 (z112 b0 c1).2:=fun b c h=>⟨0,by
 have hl:=qp (l:=b) h;unfold qth qZ qbb qbY qba qgI z112;rw [show qgt b=true from h,show z53 b=b from rfl];have hr:∀ (l m:List UInt8),l.length≤1048580→m.length≤10→decide (l.length+m.length≤room)=true:=fun l m h1 h2=>dT (by unfold room; omega);rcases qkI c with e | e | e | e | e <;> rw [e]
 ·rfl
 ·rw [hr b _ (by omega) (by simp)]; rfl
 ·simp only [show ((2:Int)==0)=false from rfl,show ((2:Int)==4)=false from rfl,show ((2:Int)==3)=false from rfl,show ((2:Int)==2)=true from rfl,yd,yc];rw [hr b _ (by omega) (by simp),hr (b++_) _ (by simp; omega) (by simp)];simp only [yl]; rfl
 ·simp only [show ((3:Int)==0)=false from rfl,show ((3:Int)==4)=false from rfl,show ((3:Int)==3)=true from rfl,yd,yc];rw [hr b _ (by omega) (by simp),hr (b++_) _ (by simp; omega) (by simp),hr (b++_++_) _ (by simp; omega) (by simp)];simp only [yl]; rfl
 ·simp only [show ((4:Int)==0)=false from rfl,show ((4:Int)==4)=true from rfl,yd,yc];rw [hr b _ (by omega) (by simp),hr (b++_) _ (by simp; omega) (by simp),hr (b++_++_) _ (by simp; omega) (by simp),hr (b++_++_++_) _ (by simp; omega) (by simp)];simp only [yl]; rfl⟩
theorem qtL {β:Type} (ret:UInt8→Bool→β) (b:Bool) (x y:UInt8×Bool):ret (bif b then x else y).1 (bif b then x else y).2=bif b then ret x.1 x.2 else ret y.1 y.2:=by cases b <;> rfl
theorem qxE:∀ (c0:Int),∃ n,qsR n c0=qbX (z113 c0).1 (z113 c0).2:=fun c=>⟨9,by
 unfold z113;simp only [qtL];rw [show (bif decide (c < 0)||decide (256≤c) then qbX (0,false).1 (0,false).2 else qbX (oct8 c,true).1 (oct8 c,true).2)=qcs 9 c from by
  unfold qcs;cases decide (c < (0:Int)) <;> cases decide ((256:Int)≤c) <;> rfl]
 rfl⟩
theorem qxF:∀ (c0:Int),∃ n,qyg n c0=qsS (z106 c0):=fun _=>⟨0,rfl⟩
theorem qxG:∀ (c0:Int),∃ n,qsU n c0=qP (z115 c0).1 (z115 c0).2:=fun c=>⟨0,by
 unfold qsU qbu qbt qbs z115;rw [show qoG z131 c=true from by show lenOk z131=true; decide];have h1:decide (0≤c)=false→decide (c < 256)=true:=by simp; omega
 have h2:decide (c < 128)=true→decide (c < 256)=true:=by simp; omega
 have h3:decide (160≤c)=true→decide (0≤c)=true:=by simp; omega
 have h4:decide (160≤c)=true→decide (c < 128)=false:=by simp; omega
 have h5:decide (160≤c)=false→decide (c < 256)=true:=by simp; omega
 simp only [qtL];revert h1 h2 h3 h4 h5;cases decide ((0:Int)≤c) <;> cases decide (c < (128:Int)) <;> cases decide ((160:Int)≤c) <;> cases decide (c < (256:Int)) <;> cases decide (z89 z131 c < (0:Int)) <;> intro h1 h2 h3 h4 h5 <;> first | rfl | (exfalso; revert h1 h2 h3 h4 h5; decide)⟩
theorem qxH:∀ (c0:Int),∃ n,qyi n c0=qsV (z107 c0):=fun _=>⟨0,rfl⟩
theorem qxI:∀ (c0:Int),∃ n,qye n c0=qsP (z105 c0):=fun _=>⟨0,rfl⟩
theorem qtM (k0:List UInt8→Option AV) (t:List Int) (hl:t.length≤1048576):∀ (d i n:Nat),i+d=t.length→d < n →
 qiX k0 n ((t.take i).map (fun c=>UInt8.ofNat (Int.toNat (IntKind.wrap .u8 c)))++List.replicate (t.length - i) 0) t (t.length:Nat) (i:Nat)=k0 (t.map fun c=>UInt8.ofNat (Int.toNat (IntKind.wrap .u8 c)))
 | d,i,0,hi,hn=>by omega
 | 0,i,n+1,hi,hn=>by
  show qes k0 (qiX k0 n) n _ t _ _=_;unfold qes;obtain rfl:i=t.length:=by omega
  rw [decide_eq_false (by omega),yd,List.take_length,Nat.sub_self];simp
 | d+1,i,n+1,hi,hn=>by
  show qes k0 (qiX k0 n) n _ t _ _=_;unfold qes;have hlt:i < t.length:=by omega
  have hl2:((t.take i).map (fun c=>UInt8.ofNat (Int.toNat (IntKind.wrap .u8 c)))++List.replicate (t.length - i) (0:UInt8)).length=t.length:=by simp; omega
  have ih:=qtM k0 t hl d (i+1) n (by omega) (by omega);rw [qtY,yo hlt,yc,qfO,y3,yc,y3,qtY,hl2,yo hlt,yc,qm (by omega),qme,
   qBv (fun c=>UInt8.ofNat (Int.toNat (IntKind.wrap .u8 c))) t 0 i hlt 0]
  exact ih
theorem qBC:∀ (t0:List Int),(qoI t0=true)→∃ n,qwS n t0=qtb (z52 t0).1 (z52 t0).2:=fun t h=>⟨t.length+1,by
 have hl:=qp h;unfold qwS z52;rw [show quM t=true from h,yi,yc];cases z92 t != -1 with
 | true=>rfl
 | false =>
  have:=qtM (qet (t.length+1)) t hl t.length 0 (t.length+1) (by omega) (by omega);rw [yd,yd,qfO,yo (Int.le_refl _),yo (by unfold room; omega)];unfold qet at this ⊢;simpa using this⟩
theorem qeZ {α β:Type} (g:α→β):∀ l:List α,l.flatMap (fun x=>[g x])=l.map g
 | []=>rfl
 | x :: r=>by rw [List.flatMap_cons,qeZ g r]; rfl
theorem qBD:∀ (charset0:Int) (c1:Int),∃ n,qAH n charset0 c1=qfi (z72 charset0 c1):=fun cs c=>⟨0,by
 unfold qAH z72;cases (cs==(1:Int)) <;> cases (cs==(2:Int)) <;> cases (cs==(3:Int)) <;> cases (cs==(4:Int)) <;> cases (cs==(5:Int)) <;> cases decide ((0:Int)≤c) <;> rfl⟩
theorem qBE:∀ (charset0:Int),∃ n,qAK n charset0=qcJ (z74 charset0):=fun cs=>⟨0,by
 unfold qAK z74
 by_cases h:cs=2
 ·subst h; rfl
 ·rw [beqF h];cases (cs==(1:Int)) <;> cases (cs==(3:Int)) <;> cases (cs==(4:Int)) <;> cases (cs==(5:Int)) <;> rfl⟩
theorem qBF:∀ (charset0:Int) (t1:List Int),(quQ charset0 t1=true)→∃ n,qAL n charset0 t1=qtc (z75 charset0 t1):=fun cs t h=>⟨0,by
 unfold qAL z75;rw [show qmN cs t=true from h];cases decide (0 < z74 cs) <;> rfl⟩
theorem qBG:∀ (t0:List Int),(quN t0=true)→∃ n,qwU n t0=qhB (z77 t0).1 (z77 t0).2:=fun t h=>⟨t.length+1,by
 have hl:=qp (l:=t) h;unfold qwU z77;have:=qgW (t:=t) (dv:=0) (f:=fun c=>[(z113 c).1]) (q:=z106) (b:=1) (k0:=qez (t.length+1)) (R:=qhB [] 9)
  (L:=fun n out i=>qlJ qhB (qez (t.length+1)) n out t ((t.length:Nat):Int) i) (fun x=>by simp) (fun n i out hi hb=>by
   show qey _ _ _ n _ _ _ _=_;unfold qey;simp (disch:=omega) only [dT,yc,yi,tn,qm,yg,List.length_nil,yE];show (bif !(z106 (t.getD i 0)) then _ else _)=_;cases z106 (t.getD i 0) <;> rfl) (fun n out=>by
   show qey _ _ _ n _ _ _ _=_;unfold qey;rw [dF (by omega)];rfl) t.length 0 (t.length+1) [] (by omega) (by omega) (by unfold room; simp; omega)
 refine this.trans ?_;rw [yw,qeZ];cases t.all z106 <;> rfl⟩
theorem qBH:∀ (t0:List Int),(quO t0=true)→∃ n,qwV n t0=qtj (z78 t0).1 (z78 t0).2:=fun t h=>⟨t.length+1,by
 have hl:=qp (l:=t) h;unfold qwV z78;rw [show qmM t=true from h];cases decide (0≤z114 t) with
 | true=>rfl
 | false =>
  have:=qgW (t:=t) (dv:=0) (f:=fun c=>[(z115 c).1]) (q:=fun _=>true) (b:=1) (k0:=qeB (t.length+1)) (R:=none)
   (L:=fun n out i=>qlK (qeB (t.length+1)) n out t ((t.length:Nat):Int) i) (fun x=>by simp) (fun n i out hi hb=>by
    show qeA _ _ n _ _ _ _=_;unfold qeA;simp (disch:=omega) only [dT,yc,yi,tn,qm,yg,List.length_nil,yE]) (fun n out=>by
    show qeA _ _ n _ _ _ _=_;unfold qeA;rw [dF (by omega)];rfl) t.length 0 (t.length+1) [] (by omega) (by omega) (by unfold room; simp; omega)
  simp (disch:=(first | omega | (unfold room; omega))) only [dT,yc,yd,yi];refine this.trans ?_;rw [yw,qeZ,List.all_eq_true.2 (fun _ _=>rfl)];rfl⟩
theorem qtN (c:Int):(z112 [] c).1.length≤4:=by
 unfold z112;rcases qkI c with e | e | e | e | e <;> rw [e] <;> simp
theorem qBI:∀ (t0:List Int),(quP t0=true)→∃ n,qwT n t0=qti (z76 t0).1 (z76 t0).2:=fun t h=>⟨t.length+1,by
 have hl:=qp (l:=t) h;unfold qwT z76;rw [show qoH t=true from h];cases !(z49 t) with
 | true=>rfl
 | false =>
  have:=qgW (t:=t) (dv:=0) (f:=fun c=>(z112 [] c).1) (q:=fun _=>true) (b:=4) (k0:=qex (t.length+1)) (R:=none)
   (L:=fun n out i=>qlI (qex (t.length+1)) n out t ((t.length:Nat):Int) i) qtN (fun n i out hi hb=>by
    show qew _ _ n _ _ _ _=_;unfold qew;have hp:=qtN (t.getD i 0);rw [show qmL ([]:List UInt8) (t.getD (Int.toNat (i:Int)) 0)=true from rfl];simp (disch:=omega) only [dT,yc,yi,tn,qm]) (fun n out=>by
    show qew _ _ n _ _ _ _=_;unfold qew;rw [dF (by omega)];rfl) t.length 0 (t.length+1) [] (by omega) (by omega) (by unfold room; simp; omega)
  simp only [yc,yd,yi];refine this.trans ?_;rw [yw,List.all_eq_true.2 (fun _ _=>rfl)];rfl⟩
theorem qBJ:∀ (charset0:Int) (t1:List Int),(quR charset0 t1=true)→∃ n,qAP n charset0 t1=qgL (z44 charset0 t1).1 (z44 charset0 t1).2:=fun cs t h=>⟨0,by
 unfold qAP z44;rw [show quQ cs t=true from h,show quP t=true from h,show quN t=true from h,show quO t=true from h,show qoI t=true from h];cases (z74 cs==0) <;> cases z75 cs t <;> cases (cs==(5:Int)) <;> cases (cs==(3:Int)) <;> cases (cs==(4:Int)) <;> rfl⟩
set_option linter.unusedSimpArgs false
theorem qBK:∀ (x0:Int),(quE x0=true)→∃ n,qAI n x0=qyj (z73 x0):=fun x h=>⟨0,by
 unfold qAI;rw [show qqW x=true from h];rfl⟩
theorem qBL:∀ (sets0:Int),(quF sets0=true)→∃ n,qAJ n sets0=qsZ (z43 sets0):=fun s h=>⟨0,by
 have h':=of_decide_eq_true h;unfold qAJ z43;cases (s==0) with
 | true=>rfl
 | false =>
  have hw:IntKind.wrap .u64 s=s:=by
   exact IntWalk.u64_in s (by omega)
  rw [hw,show quE s=true from yo (by omega)];rfl⟩
theorem qBM:∀ a b c d e:Bool,(bif e then bits .or .i64 (bif d then bits .or .i64 (bif c then bits .or .i64 (bif b then bits .or .i64 (bif a then bits .or .i64 0 2 else 0) 4 else (bif a then bits .or .i64 0 2 else 0)) 8 else (bif b then bits .or .i64 (bif a then bits .or .i64 0 2 else 0) 4 else (bif a then bits .or .i64 0 2 else 0))) 16 else (bif c then bits .or .i64 (bif b then bits .or .i64 (bif a then bits .or .i64 0 2 else 0) 4 else (bif a then bits .or .i64 0 2 else 0)) 8 else (bif b then bits .or .i64 (bif a then bits .or .i64 0 2 else 0) 4 else (bif a then bits .or .i64 0 2 else 0)))) 32 else
 (bif d then bits .or .i64 (bif c then bits .or .i64 (bif b then bits .or .i64 (bif a then bits .or .i64 0 2 else 0) 4 else (bif a then bits .or .i64 0 2 else 0)) 8 else (bif b then bits .or .i64 (bif a then bits .or .i64 0 2 else 0) 4 else (bif a then bits .or .i64 0 2 else 0))) 16 else (bif c then bits .or .i64 (bif b then bits .or .i64 (bif a then bits .or .i64 0 2 else 0) 4 else (bif a then bits .or .i64 0 2 else 0)) 8 else (bif b then bits .or .i64 (bif a then bits .or .i64 0 2 else 0) 4 else (bif a then bits .or .i64 0 2 else 0)))))=maskB a b c d e:=by decide +kernel
theorem qEU:∀ a b c d e a' b' c' d' e':Bool,bits .and .i64 (maskB a b c d e) (maskB a' b' c' d' e')=maskB (a&&a') (b&&b') (c&&c') (d&&d') (e&&e'):=by decide +kernel
theorem qEV:∀ a b c d e:Bool,z43 (maskB a b c d e)=bif a then 1 else bif b then 2 else bif c then 3 else bif d then 4 else bif e then 5 else 0:=by decide +kernel
theorem qBN:∀ a b c d e:Bool,(maskB a b c d e==0) = !(a||b||c||d||e):=by decide +kernel
theorem qHh:∀ a b c d e:Bool,0≤maskB a b c d e∧maskB a b c d e < 64:=by decide +kernel
theorem qBO:∀ (c0:Int),∃ n,qwP n c0=qsY (z42 c0):=fun c=>⟨6,by
 have w:∀ i:Nat,i < 10→IntKind.wrap .i64 ((i:Int)+1)=((i+1:Nat):Int):=fun i h=>qm (by omega);have step:∀ (k i:Nat) (s:Int),i < 5→qiW (qcT 6) (k+1) c s (i:Int)=qiW (qcT 6) k c (bif z72 ((i+1:Nat):Int) c then bits .or .i64 s (IntKind.wrap .i64 ((1:Int)*2 ^ (min (i+1) (IntKind.bits .i64)))) else s) ((i+1:Nat):Int):=fun k i s hi=>by
  show qep _ _ k _ _ _=_;unfold qep;rw [dT (show (i:Int) < 5 by omega),w i (by omega)];cases z72 ((i+1:Nat):Int) c with
  | true =>
   rw [dT (show (0:Int)≤((i+1:Nat):Int) by omega),tn];rfl
  | false=>rfl
 have last:∀ (k:Nat) (s:Int),qiW (qcT 6) (k+1) c s (5:Nat)=qsY s:=fun k s=>by
  show qep _ _ k _ _ _=_;unfold qep;rw [dF (by omega)];rfl
 unfold qwP z42 maskF;rw [show (0:Int)=((0:Nat):Int) from rfl,step 5 0 _ (by omega),step 4 1 _ (by omega),step 3 2 _ (by omega),step 2 3 _ (by omega),step 1 4 _ (by omega),last 0];simp only [];rw [← qBM (z72 1 c) (z72 2 c) (z72 3 c) (z72 4 c) (z72 5 c)];rfl⟩
def qoe (t:List Int) (a b c d e:Bool):Int:=maskB (a&&t.all (z72 1)) (b&&t.all (z72 2)) (c&&t.all (z72 3)) (d&&t.all (z72 4)) (e&&t.all (z72 5))
theorem qhK (t:List Int) (hl:t.length≤1048576):∀ (d i n:Nat) (a b c x e:Bool),i+d=t.length→d < n →
 qlG (qcU (t.length+1)) n (maskB a b c x e) t ((t.length:Nat):Int) (i:Int)=qcU (t.length+1) (qoe (t.drop i) a b c x e)
 | d,i,0,a,b,c,x,e,hi,hn=>by omega
 | 0,i,n+1,a,b,c,x,e,hi,hn=>by
  obtain rfl:i=t.length:=by omega
  show qeq _ _ n _ _ _ _=_;unfold qeq;rw [dF (by omega),yA (yv _)];simp [qoe]
 | d+1,i,n+1,a,b,c,x,e,hi,hn=>by
  have hlt:i < t.length:=by omega
  show qeq _ _ n _ _ _ _=_;unfold qeq;simp (disch:=omega) only [dT,yc,yi,tn,qm];unfold z42 maskF;rw [qEU,qhK t hl d (i+1) n _ _ _ _ _ (by omega) (by omega),qC (d:=(0:Int)) hlt];unfold qoe;simp only [List.all_cons,Bool.and_assoc]
theorem qBP:∀ (t0:List Int),(quG t0=true)→∃ n,qwQ n t0=qta (z22 t0).1 (z22 t0).2:=fun t h=>⟨t.length+1,by
 have hl:=qp (l:=t) h;unfold qwQ;have h0:=qhK t hl t.length 0 (t.length+1) true true true true true (by omega) (by omega);rw [show maskB true true true true true=62 from rfl] at h0;refine h0.trans ?_;unfold qoe qcU z22 selF qzw;simp only [y3,yw];rw [qBN,qEV,show ∀ z,0≤z∧z < 64→quF z=true from fun z hz=>yo hz]
 ·cases t.all (z72 1) <;> cases t.all (z72 2) <;> cases t.all (z72 3) <;> cases t.all (z72 4) <;> cases t.all (z72 5) <;> rfl
 ·exact qHh _ _ _ _ _⟩
end Go.Av
