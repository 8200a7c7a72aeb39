import Derived.Test.YtabdohophompiaaGreatDoorPxSh
import Derived.Test.YtabdohophompiaaGreatDoorEfL
import Derived.Test.YtabdohophompiaaGreatDoorAvE
import Derived.Lib.IndexAny
import Derived.Lib.IndexMore
import Derived.Lib.IndexBytes
import Derived.IntWalk
import Derived.KernelRfl
namespace Go.Av
set_option linter.unusedVariables false
theorem qzc {α:Type} [DecidableEq α] {a b:List α} {i:Nat} (ha:i < a.length) (hb:i < b.length) (d:α):decide (a.drop i=b.drop i)=bif a.getD i d != b.getD i d then false else decide (a.drop (i+1)=b.drop (i+1)):=by
 rw [qM (d:=d) ha,qM (d:=d) hb];generalize a.getD i d=x;generalize b.getD i d=y
 by_cases h:x=y
 ·subst h; simp
 ·simp [h]
theorem qvj (ret:Bool→Option AV) (a b:List UInt8) (hab:a.length=b.length) (hl:a.length≤1048576):∀ (d i n:Nat),i+d=a.length→d < n →
 qjn ret (ret true) n a b (i:Nat)=ret (decide (a.drop i=b.drop i))
 | d,i,0,hi,hn=>by omega
 | 0,i,n+1,hi,hn=>by
  show qeZ ret (ret true) (qjn ret (ret true) n) n a b _=_;unfold qeZ;rw [decide_eq_false (by omega),yd,yA (by omega),yA (by omega)];rfl
 | d+1,i,n+1,hi,hn=>by
  show qeZ ret (ret true) (qjn ret (ret true) n) n a b _=_;unfold qeZ;have hlt:i < a.length:=by omega
  have hlt':i < b.length:=by omega
  have ih:=qvj ret a b hab hl d (i+1) n (by omega) (by omega);rw [qvG,yo hlt,yc,qfW,yZ,yc,yZ,qvG,yo hlt',yc,ql (by omega),qmI,ih,qzc hlt hlt' 0];cases (a.getD i 0 != b.getD i 0) <;> rfl
theorem qDr:∀ (a0:List UInt8) (b1:List UInt8),(qpV a0 b1=true)→∃ n,qza n a0 b1=qhS (z11 a0 b1):=fun a b h=>⟨a.length+1,by
 unfold qza z11
 by_cases hab:a.length=b.length
 ·rw [show (((a.length:Nat):Int) != ((b.length:Nat):Int))=false by simp [hab],yd];exact qvj qhS a b hab (qr h) a.length 0 (a.length+1) (by omega) (by omega)
 ·rw [show (((a.length:Nat):Int) != ((b.length:Nat):Int))=true by simp only [bne_iff_ne,ne_eq]; omega,yc,decide_eq_false (fun e=>hab (by rw [e]))]⟩
theorem qzd:∀ (c0:UInt8),∃ n,quF n c0=qf (z134 c0):=fun c=>⟨0,by
 unfold quF qca qQ z134 qns orI;cases decide (c < (32:UInt8)) <;> cases (c==(127:UInt8)) <;> cases (c==(32:UInt8)) <;> cases (c==(9:UInt8)) <;> cases decide ((48:UInt8)≤c) <;> cases decide (c≤(57:UInt8)) <;> cases decide ((65:UInt8)≤c) <;> cases decide (c≤(90:UInt8)) <;> cases decide ((97:UInt8)≤c) <;> cases decide (c≤(122:UInt8)) <;> rfl⟩
theorem qze:∀ (s0:List UInt8) (c1:UInt8),∃ n,qAh n s0 c1=quG (z145 s0 c1):=fun _ _=>⟨0,rfl⟩
theorem qzf:∀ (s0:List UInt8) (c1:UInt8),∃ n,qAi n s0 c1=quH (z140 s0 c1):=fun _ _=>⟨0,rfl⟩
theorem qzg:∀ (s0:List UInt8) (c1:UInt8),∃ n,qAj n s0 c1=quI (z135 s0 c1):=fun _ _=>⟨0,rfl⟩
theorem qzh:∀ (c0:UInt8),∃ n,quJ n c0=qaj (z125 c0):=fun c=>⟨0,by
 unfold quJ qbc qcb qaF z125 qwA orI;cases decide (c < (33:UInt8)) <;> cases decide ((126:UInt8) < c) <;> cases z135 [33,42,43,45,47] c <;> cases z135 [43,47] c <;> cases z135 [40,41,60,62,64,44,59,58,92,34,47,91,93,63,61] c <;> cases z135 [42,39,37] c <;> rfl⟩
theorem qzi:∀ (c0:UInt8) (kinds1:Int),∃ n,qAk n c0 kinds1=quK (z100 c0 kinds1):=fun _ _=>⟨0,rfl⟩
theorem dT {p:Prop} [Decidable p] (h:p):decide p=true:=yo h
theorem dF {p:Prop} [Decidable p] (h:¬ p):decide p=false:=decide_eq_false h
theorem wr {x:Int} (h : -9223372036854775808≤x∧x≤9223372036854775807):IntKind.wrap .i64 x=x:=IntWalk.i64_in x h
theorem tn (i:Nat):Int.toNat (i:Int)=i:=Int.toNat_natCast i
theorem qv {α:Type} {l:List α} (h:l.length≤1048576):lenOk l=true:=by unfold lenOk; rw [ym]; exact h
theorem qkX (p:UInt8→Bool) (s:List UInt8):(((s.countP p:Nat):Int)==((s.length:Nat):Int))=s.all p:=by
 rw [Bool.eq_iff_iff];simp only [beq_iff_eq,List.all_eq_true];have:=List.countP_eq_length (p:=p) (l:=s);constructor
 ·intro h; exact this.1 (by omega)
 ·intro h; have:=this.2 h; omega
theorem bneT {a b:Int} (h:a≠b):(a != b)=true:=by simp [bne,h]
theorem bneF {a b:Int} (h:a=b):(a != b)=false:=by simp [h]
theorem qvk (ret:Bool→Option AV) (k0:Option AV) (hk:k0=ret false) (s:List UInt8) (c:UInt8) (hl:s.length≤1048576):∀ (d i n:Nat),i+d=s.length→d < n →
 qdO ret k0 n s c (i:Nat)=ret ((s.drop i).contains c)
 | d,i,0,hi,hn=>by omega
 | 0,i,n+1,hi,hn=>by
  show qcz ret k0 (qdO ret k0 n) n _ _ _=_;unfold qcz;rw [dF (by omega),yd,yA (by omega),hk];rfl
 | d+1,i,n+1,hi,hn=>by
  show qcz ret k0 (qdO ret k0 n) n _ _ _=_;unfold qcz;have hlt:i < s.length:=by omega
  have ih:=qvk ret k0 hk s c hl d (i+1) n (by omega) (by omega);rw [qM (d:=(0:UInt8)) hlt,List.contains_cons];simp (disch:=omega) only [dT,yc,yi,tn,ql];rw [ih,show (s.getD i 0==c)=(c==s.getD i 0) from Bool.beq_comm];cases (c==s.getD i 0) <;> rfl
theorem qzj (s:List UInt8) (c:UInt8) (hl:s.length≤1048576):∃ n,qkP n s c=qeO (z126 s c):=⟨s.length+1,by
 unfold qkP;have:=qvk qeO (qdP (s.length+1)) rfl s c hl s.length 0 (s.length+1) (by omega) (by omega);exact this⟩
theorem qzk:∀ (s0:List UInt8) (c1:UInt8),(qzR s0 c1=true)→∃ n,qkP n s0 c1=qeO (z126 s0 c1):=fun s c h=>qzj s c (qr h)
theorem qDs:∀ (c0:UInt8) (kinds1:Int),∃ n,qHf n c0 kinds1=qAw (z65 c0 kinds1):=fun _ _=>⟨0,rfl⟩
theorem qcd (k0:Int→Option AV) (s:List UInt8) (k:Int) (hl:s.length≤1048576):∀ (d i n m:Nat),i+d=s.length→d < n→m+d≤1048576 →
 qjk k0 n s k (m:Nat) (i:Nat)=k0 ((m+(s.drop i).countP (fun c=>z100 c k):Nat):Int)
 | d,i,0,m,hi,hn,hm=>by omega
 | 0,i,n+1,m,hi,hn,hm=>by
  show qeT k0 (qjk k0 n) n _ _ _ _=_;unfold qeT;rw [dF (by omega),yd,yA (by omega)];rfl
 | d+1,i,n+1,m,hi,hn,hm=>by
  show qeT k0 (qjk k0 n) n _ _ _ _=_;unfold qeT;have hlt:i < s.length:=by omega
  have ih:=qcd k0 s k hl d (i+1) n m (by omega) (by omega) (by omega);have ih2:=qcd k0 s k hl d (i+1) n (m+1) (by omega) (by omega) (by omega);rw [qM (d:=(0:UInt8)) hlt,List.countP_cons];simp (disch:=omega) only [dT,yc,yi,tn,ql];rw [show z65 (s.getD i 0) k=z100 (s.getD i 0) k from rfl];cases z100 (s.getD i 0) k with
  | true=>rw [yc,ih2]; congr 2; simp; omega
  | false=>rw [yd,ih]; congr 2
theorem qDt:∀ (s0:List UInt8) (kinds1:Int),(qpX s0 kinds1=true)→∃ n,qyT n s0 kinds1=qAz (z37 s0 kinds1):=fun s k h=>⟨s.length+1,by
 have hl:=qr h;unfold qyT;have:=qcd (qha (s.length+1)) s k hl s.length 0 (s.length+1) 0 (by omega) (by omega) (by omega);refine Eq.trans this ?_;rw [yD,yw];rfl⟩
theorem qJP {P:UInt8→Prop} (h:∀ i:Fin 256,P (UInt8.ofNat i.val)) (c:UInt8):P c:=by
 have:=h ⟨c.toNat,c.toNat_lt⟩;simpa using this
theorem qpj {α:Type} (pre:List α) (x d:α):List.getD (pre++[x]) pre.length d=x:=by
 rw [yW,yM (yv _),Nat.sub_self];rfl
theorem qvl {α:Type} (pre:List α) (x y:α):List.set (pre++[x]) pre.length y=pre++[y]:=by
 rw [List.set_append_right _ _ (yv _),Nat.sub_self];rfl
theorem and15 (n:Int):bits .and .i64 n 15=n % 16:=by
 have h:(BitVec.ofInt 64 n &&& BitVec.ofInt 64 15).toNat=(n % 16).toNat:=by
  rw [BitVec.toNat_and];have h1:(BitVec.ofInt 64 15).toNat=2 ^ 4 - 1:=by decide
  rw [h1,Nat.and_two_pow_sub_one_eq_mod,BitVec.toNat_ofInt];omega
 show IntKind.wrap .i64 (((BitVec.ofInt 64 n &&& BitVec.ofInt 64 15).toNat:Nat):Int)=_;rw [h,IntWalk.i64_in _ (by omega)];omega
theorem qzl:∀ (n0:Int),(qcJ n0=true)→∃ n,quN n n0=quM (z132 n0):=fun n _=>⟨0,by
 unfold quN z132;rw [and15];have h0:(0:Int)≤n % 16:=by omega
 have h1:n % 16 < (((([48,49,50,51,52,53,54,55,56,57,65,66,67,68,69,70]:List UInt8).length:Nat)):Int):=by simp; omega
 rw [yo h0,yo h1];rfl⟩
theorem qJQ (n:Int):Int.tmod (Int.tmod n 16+16) 16=n % 16:=by
 have h:Int.tmod n 16=n % 16∨Int.tmod n 16=n % 16 - 16:=by
  rcases Int.le_total 0 n with h | h
  ·exact .inl (Int.tmod_eq_emod_of_nonneg h)
  ·have h2:Int.tmod n 16 = -((-n) % 16):=by
    have:=Int.neg_tmod (-n) 16;rw [Int.neg_neg] at this;rw [this,Int.tmod_eq_emod_of_nonneg (by omega)]
   omega
 have h3:0≤Int.tmod n 16+16:=by omega
 rw [Int.tmod_eq_emod_of_nonneg h3];omega
theorem qmw (n:Int) : -16 < Int.tmod n 16∧Int.tmod n 16 < 16:=by
 have h:Int.tmod n 16=n % 16∨Int.tmod n 16=n % 16 - 16∧n % 16≠0:=by
  rcases Int.le_total 0 n with h | h
  ·exact .inl (Int.tmod_eq_emod_of_nonneg h)
  ·have h2:Int.tmod n 16 = -((-n) % 16):=by
    have:=Int.neg_tmod (-n) 16;rw [Int.neg_neg] at this;rw [this,Int.tmod_eq_emod_of_nonneg (by omega)]
   omega
 omega
theorem qmx:∀ j:Fin 16,(bif decide (((j.val:Nat):Int) < 10) then UInt8.ofNat (Int.toNat (IntKind.wrap .u8 (IntKind.wrap .i64 ((48:Int)+((j.val:Nat):Int)))))
 else UInt8.ofNat (Int.toNat (IntKind.wrap .u8 (IntKind.wrap .i64 ((IntKind.wrap .i64 ((65:Int)+((j.val:Nat):Int))) - (10:Int))))))=List.getD hexD j.val 0:=by decide +kernel
theorem qzm:∀ (n0:Int),(qcK n0=true)→∃ n,qvd n n0=qmq (z120 n0):=fun n _=>⟨0,by
 unfold qvd qdQ z120;have hr:=qmw n;rw [IntWalk.i64_in (Int.tmod n 16+16) (by omega),qJQ];have hj:(n % 16).toNat < 16:=by omega
 have:=qmx ⟨(n % 16).toNat,hj⟩;simp only [Int.toNat_of_nonneg (show 0≤n % 16 by omega)] at this;rw [← this];cases decide (n % 16 < 10) <;> rfl⟩
theorem qDu {P:UInt8→Prop} (h:∀ i:Fin 256,P (UInt8.ofNat i.val)) (c:UInt8):P c:=by
 have:=h ⟨c.toNat,c.toNat_lt⟩;simpa using this
theorem qvm:∀ i:Fin 256,[z132 (IntKind.wrap .i64 ((UInt8.toNat (UInt8.ofNat (UInt8.toNat (UInt8.ofNat i.val) / 2 ^ (min (Int.toNat (4:Int)) 8))):Nat):Int)),z132 (IntKind.wrap .i64 ((UInt8.toNat (UInt8.ofNat i.val):Nat):Int))]=z116 (UInt8.ofNat i.val):=by decide +kernel
theorem qkY:∀ i:Fin 256,[z120 (IntKind.wrap .i64 (Int.tdiv (IntKind.wrap .i64 ((UInt8.toNat (UInt8.ofNat i.val):Nat):Int)) (16:Int))),z120 (Int.tmod (IntKind.wrap .i64 ((UInt8.toNat (UInt8.ofNat i.val):Nat):Int)) (16:Int))]=z116 (UInt8.ofNat i.val):=by decide +kernel
theorem qqW:∀ i:Fin 256,qcK (IntKind.wrap .i64 (Int.tdiv (IntKind.wrap .i64 ((UInt8.toNat (UInt8.ofNat i.val):Nat):Int)) (16:Int)))=true∧qcK (Int.tmod (IntKind.wrap .i64 ((UInt8.toNat (UInt8.ofNat i.val):Nat):Int)) (16:Int))=true ∧
 qcJ (IntKind.wrap .i64 ((UInt8.toNat (UInt8.ofNat (UInt8.toNat (UInt8.ofNat i.val) / 2 ^ (min (Int.toNat (4:Int)) 8))):Nat):Int))=true∧qcJ (IntKind.wrap .i64 ((UInt8.toNat (UInt8.ofNat i.val):Nat):Int))=true:=by decide +kernel
theorem boths (c:UInt8):[z132 (IntKind.wrap .i64 ((UInt8.toNat (UInt8.ofNat (UInt8.toNat c / 2 ^ (min (Int.toNat (4:Int)) 8))):Nat):Int)),z132 (IntKind.wrap .i64 ((UInt8.toNat c:Nat):Int))]=z116 c:=qDu (P:=fun c=>[z132 (IntKind.wrap .i64 ((UInt8.toNat (UInt8.ofNat (UInt8.toNat c / 2 ^ (min (Int.toNat (4:Int)) 8))):Nat):Int)),z132 (IntKind.wrap .i64 ((UInt8.toNat c:Nat):Int))]=z116 c) qvm c
theorem qDv (c:UInt8):[z120 (IntKind.wrap .i64 (Int.tdiv (IntKind.wrap .i64 ((UInt8.toNat c:Nat):Int)) (16:Int))),z120 (Int.tmod (IntKind.wrap .i64 ((UInt8.toNat c:Nat):Int)) (16:Int))]=z116 c:=qDu (P:=fun c=>[z120 (IntKind.wrap .i64 (Int.tdiv (IntKind.wrap .i64 ((UInt8.toNat c:Nat):Int)) (16:Int))),z120 (Int.tmod (IntKind.wrap .i64 ((UInt8.toNat c:Nat):Int)) (16:Int))]=z116 c) qkY c
theorem qHh (c:UInt8):qcK (IntKind.wrap .i64 (Int.tdiv (IntKind.wrap .i64 ((UInt8.toNat c:Nat):Int)) (16:Int)))=true∧qcK (Int.tmod (IntKind.wrap .i64 ((UInt8.toNat c:Nat):Int)) (16:Int))=true ∧
 qcJ (IntKind.wrap .i64 ((UInt8.toNat (UInt8.ofNat (UInt8.toNat c / 2 ^ (min (Int.toNat (4:Int)) 8))):Nat):Int))=true∧qcJ (IntKind.wrap .i64 ((UInt8.toNat c:Nat):Int))=true:=qDu (P:=fun c=>qcK (IntKind.wrap .i64 (Int.tdiv (IntKind.wrap .i64 ((UInt8.toNat c:Nat):Int)) (16:Int)))=true∧qcK (Int.tmod (IntKind.wrap .i64 ((UInt8.toNat c:Nat):Int)) (16:Int))=true ∧
 qcJ (IntKind.wrap .i64 ((UInt8.toNat (UInt8.ofNat (UInt8.toNat c / 2 ^ (min (Int.toNat (4:Int)) 8))):Nat):Int))=true∧qcJ (IntKind.wrap .i64 ((UInt8.toNat c:Nat):Int))=true) qqW c
theorem qzn:∀ (c0:UInt8),∃ n,quP n c0=quO (z116 c0):=fun c=>⟨0,by
 obtain ⟨_,_,h1,h2⟩:=qHh c;unfold quP;rw [h1,h2,boths];rfl⟩
theorem qDw:∀ (b0:List UInt8) (sign1:UInt8) (c2:UInt8),(qwr b0 sign1 c2=true)→∃ n,qCJ n b0 sign1 c2=qAl (z80 b0 sign1 c2):=fun b sign c h=>⟨0,by
 have hl:=qr h;unfold qCJ z80 qgB z53;rw [show lenOk b=true from h,yi,yc,yo (by unfold room; simp; omega),yc,yo (by unfold room z116; simp; omega),yc,yl];rfl⟩
theorem qDx:∀ (b0:List UInt8) (sign1:UInt8) (c2:UInt8),(qBv b0 sign1 c2=true)→∃ n,qDf n b0 sign1 c2=qAx (z87 b0 sign1 c2):=fun b sign c h=>⟨0,by
 have hl:=qr h;obtain ⟨h1,h2,_,_⟩:=qHh c;unfold qDf qjj qdR z87;rw [h1,h2,yo (by unfold room; simp; omega),yi,yc,yc,yo (by unfold room; simp; omega),yc,← qDv c];rfl⟩
theorem beqT {a b:Int} (h:a=b):(a==b)=true:=by simp [h]
theorem beqF {a b:Int} (h:a≠b):(a==b)=false:=by simp [h]
theorem qzo (s:List UInt8):z11 s s=true:=by unfold z11; exact dT rfl
def okc (c:UInt8):Bool:=(c==13)||(c==10)||(c==9)||(decide (32≤c)&&decide (c≤126))
set_option linter.unusedSimpArgs false
theorem qbk {t:List Int} {p:Int→Bool} {k0:Option AV} {ret:Int→Option AV} {L:Nat→Int→Option AV} (hl:t.length≤1048576)
 (hL:∀ n (i:Nat),i < t.length→L (n+1) (i:Int)=bif p (t.getD i 0) then L n ((i+1:Nat):Int) else ret (i:Int)) (hE:∀ n,L (n+1) (t.length:Nat)=k0) :
 ∀ d i n:Nat,i+d=t.length→d < n→L n (i:Int)=bif qn p (t.drop i) i == -1 then k0 else ret (qn p (t.drop i) i)
 | d,i,0,hi,hn=>by omega
 | 0,i,n+1,hi,hn=>by
  obtain rfl:i=t.length:=by omega
  rw [hE,yA (by omega)];rfl
 | d+1,i,n+1,hi,hn=>by
  have hlt:i < t.length:=by omega
  rw [hL n i hlt,qbk hl hL hE d (i+1) n (by omega) (by omega),qM (d:=(0:Int)) hlt];rw [show qn p (t.getD i 0 :: t.drop (i+1)) (i:Int)=bif p (t.getD i 0) then qn p (t.drop (i+1)) ((i+1:Nat):Int) else (i:Int) from rfl];cases p (t.getD i 0) with
  | true=>rfl
  | false =>
   have:((i:Int) == -1)=false:=by simp only [beq_eq_false_iff_ne,ne_eq]; omega
   simp [this]
theorem qzp:∀ (n0:Int),∃ n,quB n n0=qgM (z129 n0):=fun c=>⟨0,by
 unfold quB z129;cases (c==(2:Int)) <;> cases (c==(3:Int)) <;> cases (c==(4:Int)) <;> rfl⟩
theorem qzq:∃ n,qzZ n  = quk z130:=⟨0,rfl⟩
theorem qzr:∃ n,qAb n  = qun z131:=⟨0,rfl⟩
theorem qDy {α β:Type} (f:α→β) (t:List α) (z:β) (i:Nat) (h:i < t.length) (d:α) :
 ((t.take i).map f++List.replicate (t.length - i) z).set i (f (t.getD i d))=(t.take (i+1)).map f++List.replicate (t.length - (i+1)) z:=by
 rw [List.set_append_right _ _ (by simp; omega)];have h1:((t.take i).map f).length=i:=by simp; omega
 rw [h1,Nat.sub_self,show t.length - i=(t.length - (i+1))+1 by omega,List.replicate_succ,List.set_cons_zero,List.take_succ_eq_append_getElem h,List.map_append,yl];simp [List.getD,h]
theorem qvn (x:UInt8):IntKind.wrap .i32 ((UInt8.toNat x:Nat):Int)=((UInt8.toNat x:Nat):Int):=IntWalk.i32_in _ (by have:=x.toNat_lt; omega)
theorem qzs:∀ (x0:UInt8),∃ n,qva n x0=qbq (z118 x0):=fun x=>⟨0,by
 unfold qva z118;rw [qvn];cases (x==(164:UInt8)) <;> cases (x==(166:UInt8)) <;> cases (x==(168:UInt8)) <;> cases (x==(180:UInt8)) <;> cases (x==(184:UInt8)) <;> cases (x==(188:UInt8)) <;> cases (x==(189:UInt8)) <;> cases (x==(190:UInt8)) <;> rfl⟩
theorem qzt:∀ (x0:UInt8),∃ n,qvb n x0=qjf (z119 x0):=fun x=>⟨0,by
 unfold qvb qgW z119;rw [qvn];have hx:=x.toNat_lt
 by_cases h1:x < 128
 ·rw [dT h1]; rfl
 ·by_cases h2:159 < x
  ·rw [dF h1,dT h2]; rfl
  ·rw [dF h1,dF h2];have h3:128≤x.toNat:=by have:=UInt8.not_lt.1 h1; exact UInt8.le_iff_toNat_le.1 this
   have h4:x.toNat≤159:=by have:=UInt8.not_lt.1 h2; exact UInt8.le_iff_toNat_le.1 this
   have h5:(x - 128).toNat=x.toNat - 128:=UInt8.toNat_sub_of_le _ _ (UInt8.not_lt.1 h1);rw [h5];simp (disch:=(first | omega | (simp; omega))) only [dT,yi,yc,yd,Bool.or_false,tn];rfl⟩
theorem qmy {sign:UInt8→Int} {put:Int→UInt8×Bool} {c:Int} {L:Nat→Int→Option AV} {ret:UInt8→Bool→Option AV}
 (hL:∀ n i:Nat,i < 256→L (n+1) (i:Int)=bif sign (UInt8.ofNat i)==c then (bif c != 65533 then ret (UInt8.ofNat i) true else L n ((i+1:Nat):Int)) else L n ((i+1:Nat):Int)) (hE:∀ n,L (n+1) ((256:Nat):Int)=ret 0 false)
 (hA:∀ i:Nat,i < 256→sign (UInt8.ofNat i)=c→c≠65533→put c=(UInt8.ofNat i,true)) (hB:(put c).2=true→sign (put c).1=c∧c≠65533) (hC:(put c).2=false→(put c).1=0) :
 ∀ d i n:Nat,i+d=256→d < n→(∀ j:Nat,j < i→¬ (sign (UInt8.ofNat j)=c∧c≠65533))→L n (i:Int)=ret (put c).1 (put c).2
 | d,i,0,hi,hn,_=>by omega
 | 0,i,n+1,hi,hn,hno=>by
  obtain rfl:i=256:=by omega
  rw [hE];cases h:(put c).2 with
  | true =>
   have:=hB h;exact absurd (by simpa using this) (hno (put c).1.toNat (put c).1.toNat_lt)
  | false=>rw [hC h]
 | d+1,i,n+1,hi,hn,hno=>by
  have ih:¬ (sign (UInt8.ofNat i)=c∧c≠65533)→L n ((i+1:Nat):Int)=ret (put c).1 (put c).2:=fun h=>qmy hL hE hA hB hC d (i+1) n (by omega) (by omega) fun j hj=>by
   by_cases e:j=i
   ·subst e; exact h
   ·exact hno j (by omega)
  rw [hL n i (by omega)]
  by_cases h1:sign (UInt8.ofNat i)=c
  ·by_cases h2:c=65533
   ·rw [beqT h1,bneF h2,yc,yd,ih (fun h=>h.2 h2)]
   ·rw [beqT h1,bneT h2,yc,yc,hA i (by omega) h1 h2]
  ·rw [beqF h1,yd,ih (fun h=>h1 h.1)]
theorem qhg {α β:Type} {t:List α} {dv:α} {f:α→List β} {q:α→Bool} {k0:List β→Option AV} {R:Option AV} {L:Nat→List β→Int→Option AV} {b:Nat} (hf:∀ x,(f x).length≤b)
 (hL:∀ (n i:Nat) (out:List β),i < t.length→out.length+b≤room→L (n+1) out (i:Int)=bif q (t.getD i dv) then L n (out++f (t.getD i dv)) ((i+1:Nat):Int) else R) (hE:∀ n out,L (n+1) out ((t.length:Nat):Int)=k0 out) :
 ∀ (d i n:Nat) (out:List β),i+d=t.length→d < n→out.length+b*d≤room→L n out (i:Int)=bif (t.drop i).all q then k0 (out++(t.drop i).flatMap f) else R
 | d,i,0,out,hi,hn,_=>by omega
 | 0,i,n+1,out,hi,hn,_=>by
  obtain rfl:i=t.length:=by omega
  rw [hE,yA (by omega)];simp
 | d+1,i,n+1,out,hi,hn,hb=>by
  have hlt:i < t.length:=by omega
  have hx:=hf (t.getD i dv);have hb':b*(d+1)=b*d+b:=by rw [Nat.mul_succ]
  have h0:0≤b*d:=Nat.zero_le _;rw [hL n i out hlt (by omega),qhg (α:=α) (β:=β) hf hL hE d (i+1) n _ (by omega) (by omega) (by rw [yn]; omega),qM (d:=dv) hlt];simp only [List.all_cons,List.flatMap_cons,yl];cases q (t.getD i dv) <;> rfl
theorem qDz:∀ (charset0:Int),∃ n,qCV n charset0=qgU (z96 charset0):=fun cs=>⟨0,by
 unfold qCV z96;cases (cs==(1:Int)) <;> cases (cs==(2:Int)) <;> cases (cs==(3:Int)) <;> cases (cs==(4:Int)) <;> cases (cs==(5:Int)) <;> rfl⟩
theorem qDA:∀ (charset0:Int),∃ n,qDl n charset0=qhe (z63 charset0):=fun cs=>⟨0,by
 unfold qDl z63 z96;cases (cs==(1:Int)) <;> cases (cs==(2:Int)) <;> cases (cs==(3:Int)) <;> cases (cs==(4:Int)) <;> cases (cs==(5:Int)) <;> rfl⟩
theorem qDB:∀ (charset0:Int),∃ n,qCW n charset0=quX (z56 charset0):=fun cs=>⟨0,by
 unfold qCW z56 z96;cases (cs==(1:Int)) <;> cases (cs==(2:Int)) <;> cases (cs==(3:Int)) <;> cases (cs==(4:Int)) <;> cases (cs==(5:Int)) <;> rfl⟩
theorem qDC:∀ (charset0:Int),∃ n,qDm n charset0=qvh (z35 charset0):=fun cs=>⟨0,by
 unfold qDm z35 z63 z56 z96;cases (cs==(1:Int)) <;> cases (cs==(2:Int)) <;> cases (cs==(3:Int)) <;> cases (cs==(4:Int)) <;> cases (cs==(5:Int)) <;> rfl⟩
theorem qfb (cs:Int):(z56 cs).length≤12:=by
 unfold z56 z96;cases (cs==(1:Int)) <;> cases (cs==(2:Int)) <;> cases (cs==(3:Int)) <;> cases (cs==(4:Int)) <;> cases (cs==(5:Int)) <;> decide
theorem qvo {α β:Type} (f:α→β):∀ l:List α,l.flatMap (fun x=>[f x])=l.map f
 | []=>rfl
 | x :: r=>by rw [List.flatMap_cons,qvo f r]; rfl
theorem qzu:∀ (c0:Int),∃ n,qur n c0=qlY (z127 c0):=fun c=>⟨0,by
 unfold qur z127;cases decide ((55296:Int)≤c) <;> rfl⟩
theorem qzv:∀ (c0:Int),∃ n,qus n c0=qlZ (z108 c0):=fun c=>⟨0,by
 unfold qus z108;cases decide (IntKind.wrap .u32 c≤1114111) <;> rfl⟩
theorem qzw:∀ (c0:Int),∃ n,qAe n c0=quz (z122 c0):=fun _=>⟨0,rfl⟩
theorem qzx:∀ (c0:Int),∃ n,qvc n c0=qmn (z124 c0):=fun c=>⟨0,by
 unfold qvc z124;cases decide ((55296:Int)≤c) <;> rfl⟩
theorem qDD:∀ (c0:Int),∃ n,qDa n c0=qpf (z97 c0):=fun c=>⟨0,by
 unfold qDa z97;cases decide ((0:Int)≤c) <;> cases decide (c≤(1114111:Int)) <;> rfl⟩
theorem qdd {p:Int→Bool} {t:List Int} {k0:Option AV} {ret:Int→Option AV} {x:Option AV} (h:x=bif qn p (t.drop 0) (0:Nat) == -1 then k0 else ret (qn p (t.drop 0) (0:Nat))) (hk:k0=ret (-1)):x=ret (qn p t 0):=by
 rw [h,yw];cases e:(qn p t (0:Nat) == -1) with
 | true =>
  rw [beq_iff_eq] at e;have e':qn p t 0 = -1:=e;rw [e',hk];rfl
 | false=>rfl
theorem qDE:∀ (s0:List Int) (v1:Int),(qpR s0 v1=true)→∃ n,qyy n s0 v1=qkH (z89 s0 v1):=fun t v h=>⟨t.length+1,by
 have hl:=qr (l:=t) h;unfold qyy z89;refine qdd (qbk (L:=fun n i=>qlX qkH (qgI (t.length+1)) n t v ((t.length:Nat):Int) i) hl (fun n i hi=>?_) (fun n=>?_) t.length 0 (t.length+1) (by omega) (by omega)) rfl
 ·show qen _ _ _ n _ _ _ _=_;unfold qen;simp (disch:=omega) only [dT,yc,yi,tn,ql];cases (v==t.getD i 0) <;> rfl
 ·show qen _ _ _ n _ _ _ _=_;unfold qen;rw [dF (by omega)];rfl⟩
theorem qmz:∀ (t:List Int),(qcL t=true)→∃ n,qdI n t=qbz (z121 t):=fun t h=>⟨t.length+1,by
 have hl:=qr (l:=t) h;unfold qdI z121;refine qdd (qbk (L:=fun n i=>qaW qbz (qaX (t.length+1)) n t ((t.length:Nat):Int) i) hl (fun n i hi=>?_) (fun n=>?_) t.length 0 (t.length+1) (by omega) (by omega)) rfl
 ·show qay _ _ _ n _ _ _=_;unfold qay;simp (disch:=omega) only [dT,yc,yi,tn,ql];unfold z122;cases z108 (t.getD i 0) <;> rfl
 ·show qay _ _ _ n _ _ _=_;unfold qay;rw [dF (by omega)];rfl⟩
theorem qzy:∀ (t:List Int),(qnq t=true)→∃ n,qpb n t=qgO (z114 t):=fun t h=>⟨t.length+1,by
 have hl:=qr (l:=t) h;unfold qpb z114;refine qdd (qbk (L:=fun n i=>qgP qgO (qdK (t.length+1)) n t ((t.length:Nat):Int) i) hl (fun n i hi=>?_) (fun n=>?_) t.length 0 (t.length+1) (by omega) (by omega)) rfl
 ·show qcx _ _ _ n _ _ _=_;unfold qcx;simp (disch:=omega) only [dT,yc,yi,tn,ql];cases z107 (t.getD i 0) <;> rfl
 ·show qcx _ _ _ n _ _ _=_;unfold qcx;rw [dF (by omega)];rfl⟩
theorem qDF:∀ (t:List Int),(qwt t=true)→∃ n,qyB n t=qkI (z92 t):=fun t h=>⟨t.length+1,by
 have hl:=qr (l:=t) h;unfold qyB z92;refine qdd (qbk (L:=fun n i=>qmb qkI (qgJ (t.length+1)) n t ((t.length:Nat):Int) i) hl (fun n i hi=>?_) (fun n=>?_) t.length 0 (t.length+1) (by omega) (by omega)) rfl
 ·show qeq _ _ _ n _ _ _=_;unfold qeq;simp (disch:=omega) only [dT,yc,yi,tn,ql];cases z105 (t.getD i 0) <;> rfl
 ·show qeq _ _ _ n _ _ _=_;unfold qeq;rw [dF (by omega)];rfl⟩
theorem qzz:∀ (cs:Int) (t:List Int),(qnr cs t=true)→∃ n,qpa n cs t=qgK (z111 cs t):=fun cs t h=>⟨t.length+1,by
 have hl:=qr (l:=t) h;unfold qpa z111;refine qdd (qbk (L:=fun n i=>qgL qgK (qdH (t.length+1)) n cs t ((t.length:Nat):Int) i) hl (fun n i hi=>?_) (fun n=>?_) t.length 0 (t.length+1) (by omega) (by omega)) rfl
 ·show qcw _ _ _ n _ _ _ _=_;unfold qcw;simp (disch:=omega) only [dT,yc,yi,tn,ql];cases z72 cs (t.getD i 0) <;> rfl
 ·show qcw _ _ _ n _ _ _ _=_;unfold qcw;rw [dF (by omega)];rfl⟩
theorem qDG:∀ (t0:List Int),(qws t0=true)→∃ n,qCF n t0=qAf (z88 t0):=fun t h=>⟨0,by
 unfold qCF;rw [show qcL t=true from h];rfl⟩
theorem qDH:∀ (t0:List Int),(qpS t0=true)→∃ n,qCG n t0=qAg (z49 t0):=fun t h=>⟨0,by
 unfold qCG;rw [show qws t=true from h];rfl⟩
theorem qzA:∀ (c0:Int),∃ n,quA n c0=qet (z128 c0):=fun c=>⟨0,by
 unfold quA z128;cases z108 c <;> cases decide (c < (128:Int)) <;> cases decide (c < (2048:Int)) <;> cases decide (c < (65536:Int)) <;> rfl⟩
theorem qkZ (c:Int):z128 c=0∨z128 c=1∨z128 c=2∨z128 c=3∨z128 c=4:=by
 unfold z128;cases z108 c <;> cases decide (c < (128:Int)) <;> cases decide (c < (2048:Int)) <;> cases decide (c < (65536:Int)) <;> simp
theorem qzB:∀ (b0:List UInt8) (c1:Int),(qnp b0 c1=true)→∃ n,quC n b0 c1=qeu (z112 b0 c1).1 (z112 b0 c1).2:=fun b c h=>⟨0,by
 have hl:=qr (l:=b) h;unfold quC qab qbb qbZ qba qgN z112;rw [show qgB b=true from h,show z53 b=b from rfl];have hr:∀ (l m:List UInt8),l.length≤1048580→m.length≤10→decide (l.length+m.length≤room)=true:=fun l m h1 h2=>dT (by unfold room; omega);rcases qkZ c with e | e | e | e | e <;> rw [e]
 ·rfl
 ·rw [hr b _ (by omega) (by simp)]; rfl
 ·simp only [show ((2:Int)==0)=false from rfl,show ((2:Int)==4)=false from rfl,show ((2:Int)==3)=false from rfl,show ((2:Int)==2)=true from rfl,yd,yc];rw [hr b _ (by omega) (by simp),hr (b++_) _ (by simp; omega) (by simp)];simp only [yl]; rfl
 ·simp only [show ((3:Int)==0)=false from rfl,show ((3:Int)==4)=false from rfl,show ((3:Int)==3)=true from rfl,yd,yc];rw [hr b _ (by omega) (by simp),hr (b++_) _ (by simp; omega) (by simp),hr (b++_++_) _ (by simp; omega) (by simp)];simp only [yl]; rfl
 ·simp only [show ((4:Int)==0)=false from rfl,show ((4:Int)==4)=true from rfl,yd,yc];rw [hr b _ (by omega) (by simp),hr (b++_) _ (by simp; omega) (by simp),hr (b++_++_) _ (by simp; omega) (by simp),hr (b++_++_++_) _ (by simp; omega) (by simp)];simp only [yl]; rfl⟩
theorem qhv {c:Int} (h0:0≤c) (h1:c≤1114111):IntKind.wrap .i64 c=c:=IntWalk.i64_in c (by omega)
theorem qDI:∀ (c0:Int),∃ n,qDd n c0=qhP (z86 c0):=fun c=>⟨0,by
 unfold qDd qji qfQ z86;cases h:z97 c with
 | false=>rfl
 | true =>
  unfold z97 at h;simp only [yf,ym] at h;have e1:Int.tdiv c 64=c / 64:=Int.tdiv_eq_ediv_of_nonneg h.1;have e2:Int.tdiv c 4096=c / 4096:=Int.tdiv_eq_ediv_of_nonneg h.1;have e3:Int.tdiv c 262144=c / 262144:=Int.tdiv_eq_ediv_of_nonneg h.1;have e4:Int.tmod c 64=c % 64:=Int.tmod_eq_emod_of_nonneg h.1;have e5:Int.tmod (c / 64) 64=c / 64 % 64:=Int.tmod_eq_emod_of_nonneg (by omega);have e6:Int.tmod (c / 4096) 64=c / 4096 % 64:=Int.tmod_eq_emod_of_nonneg (by omega);rw [qhv h.1 h.2.1,e1,e2,e3,e4,qhv (c:=c / 64) (by omega) (by omega),qhv (c:=c / 4096) (by omega) (by omega),qhv (c:=c / 262144) (by omega) (by omega),e5,e6,
   qhv (c:=192+c / 64) (by omega) (by omega),qhv (c:=128+c % 64) (by omega) (by omega),qhv (c:=224+c / 4096) (by omega) (by omega),qhv (c:=128+c / 64 % 64) (by omega) (by omega),
   qhv (c:=240+c / 262144) (by omega) (by omega),qhv (c:=128+c / 4096 % 64) (by omega) (by omega)]
  cases decide (c < (128:Int)) <;> cases decide (c < (2048:Int)) <;> cases decide (c < (65536:Int)) <;> rfl⟩
theorem qvp {β:Type} (ret:UInt8→Bool→β) (b:Bool) (x y:UInt8×Bool):ret (bif b then x else y).1 (bif b then x else y).2=bif b then ret x.1 x.2 else ret y.1 y.2:=by cases b <;> rfl
theorem qzC:∀ (c0:Int),∃ n,qul n c0=qbY (z113 c0).1 (z113 c0).2:=fun c=>⟨9,by
 unfold z113;simp only [qvp];rw [show (bif decide (c < 0)||decide (256≤c) then qbY (0,false).1 (0,false).2 else qbY (oct8 c,true).1 (oct8 c,true).2)=qcv 9 c from by
  unfold qcv;cases decide (c < (0:Int)) <;> cases decide ((256:Int)≤c) <;> rfl]
 rfl⟩
theorem qzD:∀ (c0:Int),∃ n,qAa n c0=qum (z106 c0):=fun _=>⟨0,rfl⟩
theorem qzE:∀ (c0:Int),∃ n,qup n c0=qR (z115 c0).1 (z115 c0).2:=fun c=>⟨0,by
 unfold qup qby qbx qbw z115;rw [show qpR z131 c=true from by show lenOk z131=true; decide];have h1:decide (0≤c)=false→decide (c < 256)=true:=by simp; omega
 have h2:decide (c < 128)=true→decide (c < 256)=true:=by simp; omega
 have h3:decide (160≤c)=true→decide (0≤c)=true:=by simp; omega
 have h4:decide (160≤c)=true→decide (c < 128)=false:=by simp; omega
 have h5:decide (160≤c)=false→decide (c < 256)=true:=by simp; omega
 simp only [qvp];revert h1 h2 h3 h4 h5;cases decide ((0:Int)≤c) <;> cases decide (c < (128:Int)) <;> cases decide ((160:Int)≤c) <;> cases decide (c < (256:Int)) <;> cases decide (z89 z131 c < (0:Int)) <;> intro h1 h2 h3 h4 h5 <;> first | rfl | (exfalso; revert h1 h2 h3 h4 h5; decide)⟩
theorem qzF:∀ (c0:Int),∃ n,qAc n c0=quq (z107 c0):=fun _=>⟨0,rfl⟩
theorem qzG:∀ (c0:Int),∃ n,qzY n c0=quj (z105 c0):=fun _=>⟨0,rfl⟩
theorem qvq (k0:List UInt8→Option AV) (t:List Int) (hl:t.length≤1048576):∀ (d i n:Nat),i+d=t.length→d < n →
 qiZ k0 n ((t.take i).map (fun c=>UInt8.ofNat (Int.toNat (IntKind.wrap .u8 c)))++List.replicate (t.length - i) 0) t (t.length:Nat) (i:Nat)=k0 (t.map fun c=>UInt8.ofNat (Int.toNat (IntKind.wrap .u8 c)))
 | d,i,0,hi,hn=>by omega
 | 0,i,n+1,hi,hn=>by
  show qer k0 (qiZ k0 n) n _ t _ _=_;unfold qer;obtain rfl:i=t.length:=by omega
  rw [decide_eq_false (by omega),yd,List.take_length,Nat.sub_self];simp
 | d+1,i,n+1,hi,hn=>by
  show qer k0 (qiZ k0 n) n _ t _ _=_;unfold qer;have hlt:i < t.length:=by omega
  have hl2:((t.take i).map (fun c=>UInt8.ofNat (Int.toNat (IntKind.wrap .u8 c)))++List.replicate (t.length - i) (0:UInt8)).length=t.length:=by simp; omega
  have ih:=qvq k0 t hl d (i+1) n (by omega) (by omega);rw [qvG,yo hlt,yc,qfW,yZ,yc,yZ,qvG,hl2,yo hlt,yc,ql (by omega),qmI,
   qDy (fun c=>UInt8.ofNat (Int.toNat (IntKind.wrap .u8 c))) t 0 i hlt 0]
  exact ih
theorem qDJ:∀ (t0:List Int),(qpT t0=true)→∃ n,qyC n t0=quw (z52 t0).1 (z52 t0).2:=fun t h=>⟨t.length+1,by
 have hl:=qr h;unfold qyC z52;rw [show qwt t=true from h,yi,yc];cases z92 t != -1 with
 | true=>rfl
 | false =>
  have:=qvq (qes (t.length+1)) t hl t.length 0 (t.length+1) (by omega) (by omega);rw [yd,yd,qfW,yo (Int.le_refl _),yo (by unfold room; omega)];unfold qes at this ⊢;simpa using this⟩
theorem qzH:∀ (x0:UInt8),∃ n,qAv n x0=quZ (z117 x0):=fun _=>⟨0,rfl⟩
theorem qqX (i:Int) (h0:0≤i) (h1:i < 256):z117 (UInt8.ofNat (Int.toNat (IntKind.wrap .u8 i)))=i:=by
 unfold z117;rw [IntWalk.u8_in i (by omega),UInt8.toNat_ofNat',Nat.mod_eq_of_lt (by omega),IntWalk.i32_in _ (by omega)];omega
theorem qvr (ret:UInt8→Bool→Option AV) (k0:Option AV) (c:Int):∀ (d:Nat) (i:Int) (n:Nat),i=256 - d→0≤i→d < n →
 qkL ret k0 n c i=bif decide (i≤c)&&decide (c < 256) then ret (UInt8.ofNat c.toNat) true else k0
 | d,i,0,hi,h0,hn=>by omega
 | 0,i,n+1,hi,h0,hn=>by
  obtain rfl:i=256:=by omega
  have h1:(decide ((256:Int)≤c)&&decide (c < 256))=false:=by
   simp only [Bool.and_eq_false_iff,decide_eq_false_iff_not]; omega
  rw [h1];rfl
 | d+1,i,n+1,hi,h0,hn=>by
  have hlt:i < 256:=by omega
  show qjc ret k0 (qkL ret k0 n) n c i=_;unfold qjc;rw [yo hlt,yc,qqX i h0 hlt,IntWalk.i64_in (i+1) (by omega),qvr ret k0 c d (i+1) n (by omega) (by omega) (by omega)]
  by_cases e:i=c
  ·subst e;have h1:(i != 65533)=true:=by simp only [bne_iff_ne,ne_eq]; omega
   rw [beq_self_eq_true,yc,h1,yc,yo (Int.le_refl i),yo hlt,IntWalk.u8_in i (by omega)];rfl
  ·have h1:(i==c)=false:=by simp [e]
   have h2:decide (i+1≤c)=decide (i≤c):=by simp only [decide_eq_decide]; omega
   rw [h1,yd,h2]
theorem qDK:∀ (c0:Int),∃ n,qyL n c0=qpe (z83 c0).1 (z83 c0).2:=fun c=>⟨257,by
 unfold qyL z83;rw [qvr _ _ c 256 0 257 (by omega) (by omega) (by omega)];cases decide (0≤c)&&decide (c < 256) <;> rfl⟩
theorem qvs (i:Nat) (h:i < 256):UInt8.ofNat (Int.toNat (IntKind.wrap .u8 (i:Int)))=UInt8.ofNat i:=by
 rw [IntWalk.u8_in _ (by omega)]; simp
theorem qJR:∀ i:Fin 256,z113 (z118 (UInt8.ofNat i.val))=(UInt8.ofNat i.val,true):=by decide +kernel
theorem qJS:∀ i:Fin 256,((z113 ((i.val:Nat):Int)).2=true→z118 (z113 ((i.val:Nat):Int)).1=((i.val:Nat):Int))∧((z113 ((i.val:Nat):Int)).2=false→(z113 ((i.val:Nat):Int)).1=0):=by decide +kernel
theorem qJT:∀ c∈([8364,352,353,381,382,338,339,376]:List Int),(z113 c).2=true∧z118 (z113 c).1=c∧c≠65533:=by decide +kernel
theorem qDL {c:Int} (h:c ∉ ([8364,352,353,381,382,338,339,376]:List Int)) (hc:c < 0∨256≤c):z113 c=(0,false):=by
 simp only [List.mem_cons,List.not_mem_nil,or_false,not_or] at h;obtain ⟨h1,h2,h3,h4,h5,h6,h7,h8⟩:=h;unfold z113;simp (disch:=omega) only [beqF,yd];rw [show (decide (c < 0)||decide (256≤c))=true by simp; omega];rfl
theorem qla (c:Int):((z113 c).2=true→z118 (z113 c).1=c∧c≠65533)∧((z113 c).2=false→(z113 c).1=0):=by
 by_cases h:c∈([8364,352,353,381,382,338,339,376]:List Int)
 ·have:=qJT c h;exact ⟨fun _=>this.2,fun e=>by rw [this.1] at e; cases e⟩
 ·by_cases hc:c < 0∨256≤c
  ·rw [qDL h hc]; exact ⟨(fun e=>by cases e),fun _=>rfl⟩
  ·have hb:=qJS ⟨c.toNat,by omega⟩;simp only [Int.toNat_of_nonneg (show 0≤c by omega)] at hb;exact ⟨fun e=>⟨hb.1 e,by omega⟩,hb.2⟩
theorem qDM:∀ (c0:Int),∃ n,qyM n c0=qkM (z84 c0).1 (z84 c0).2:=fun c=>⟨257,by
 unfold qyM z84;refine qmy (sign:=z118) (put:=z113) (L:=fun n i=>qml qkM (qgV 257) n c i) (fun n i hi=>?_) (fun n=>rfl) (fun i hi h1 h2=>?_) (qla c).1 (qla c).2 256 0 257 (by omega) (by omega) (fun j hj=>by omega)
 ·show qje _ _ _ n _ _=_;unfold qje;simp (disch:=omega) only [dT,yc,ql,qvs]
 ·have:=qJR ⟨i,hi⟩;rw [← h1];exact this⟩
theorem win_A:∀ i:Fin 256,z119 (UInt8.ofNat i.val)≠65533→z115 (z119 (UInt8.ofNat i.val))=(UInt8.ofNat i.val,true):=by decide +kernel
theorem win_B:∀ i:Fin 256,((z115 ((i.val:Nat):Int)).2=true→z119 (z115 ((i.val:Nat):Int)).1=((i.val:Nat):Int))∧((z115 ((i.val:Nat):Int)).2=false→(z115 ((i.val:Nat):Int)).1=0):=by decide +kernel
theorem win_C:∀ c∈z131,256≤c→(z115 c).2=true∧z119 (z115 c).1=c∧c≠65533:=by decide +kernel
theorem qvt (c:Int):∀ (l:List Int) (i:Int),0≤i→c ∉ l→qn (fun x => !(c==x)) l i = -1
 | [],_,_,_=>rfl
 | x :: r,i,hi,h=>by
  simp only [List.mem_cons,not_or] at h;unfold qn;rw [beqF h.1];exact qvt c r (i+1) (by omega) h.2
theorem qHi {c:Int} (h:c ∉ z131) (hc:c < 0∨256≤c):z115 c=(0,false):=by
 unfold z115 z89;rw [qvt c _ 0 (by omega) h,show ((decide (0≤c)&&decide (c < 128))||(decide (160≤c)&&decide (c < 256)))=false by simp; omega];cases decide (c < 256) <;> rfl
theorem qpk (c:Int):((z115 c).2=true→z119 (z115 c).1=c∧c≠65533)∧((z115 c).2=false→(z115 c).1=0):=by
 by_cases hc:c < 0∨256≤c
 ·by_cases h:c∈z131
  ·by_cases h0:c < 0
   ·have:∀ c∈z131,0≤c:=by decide +kernel
    have:=this c h;omega
   ·have:=win_C c h (by omega);exact ⟨fun _=>this.2,fun e=>by rw [this.1] at e; cases e⟩
  ·rw [qHi h hc]; exact ⟨(fun e=>by cases e),fun _=>rfl⟩
 ·have hb:=win_B ⟨c.toNat,by omega⟩;simp only [Int.toNat_of_nonneg (show 0≤c by omega)] at hb;exact ⟨fun e=>⟨hb.1 e,by omega⟩,hb.2⟩
theorem qDN:∀ (c0:Int),∃ n,qyN n c0=qkN (z85 c0).1 (z85 c0).2:=fun c=>⟨257,by
 unfold qyN z85;refine qmy (sign:=z119) (put:=z115) (L:=fun n i=>qmm qkN (qgX 257) n c i) (fun n i hi=>?_) (fun n=>rfl) (fun i hi h1 h2=>?_) (qpk c).1 (qpk c).2 256 0 257 (by omega) (by omega) (fun j hj=>by omega)
 ·show qjg _ _ _ n _ _=_;unfold qjg;simp (disch:=omega) only [dT,yc,ql,qvs]
 ·have:=win_A ⟨i,hi⟩;rw [← h1] at h2 ⊢;exact this h2⟩
theorem qaC {α β:Type} (g:α→β):∀ l:List α,l.flatMap (fun x=>[g x])=l.map g
 | []=>rfl
 | x :: r=>by rw [List.flatMap_cons,qaC g r]; rfl
theorem qDO:∀ (charset0:Int) (c1:Int),∃ n,qCz n charset0 c1=qfl (z72 charset0 c1):=fun cs c=>⟨0,by
 unfold qCz z72;cases (cs==(1:Int)) <;> cases (cs==(2:Int)) <;> cases (cs==(3:Int)) <;> cases (cs==(4:Int)) <;> cases (cs==(5:Int)) <;> cases decide ((0:Int)≤c) <;> rfl⟩
theorem qDP:∀ (charset0:Int) (c1:Int),∃ n,qDb n charset0 c1=qfm (z82 charset0 c1):=fun cs c=>⟨0,by
 unfold qDb z82;cases (cs==(1:Int)) <;> cases (cs==(2:Int)) <;> cases (cs==(3:Int)) <;> cases (cs==(4:Int)) <;> cases (cs==(5:Int)) <;> cases decide ((0:Int)≤c) <;> rfl⟩
theorem qDQ:∀ (charset0:Int),∃ n,qCC n charset0=qcM (z74 charset0):=fun cs=>⟨0,by
 unfold qCC z74
 by_cases h:cs=2
 ·subst h; rfl
 ·rw [beqF h];cases (cs==(1:Int)) <;> cases (cs==(3:Int)) <;> cases (cs==(4:Int)) <;> cases (cs==(5:Int)) <;> rfl⟩
theorem qDR:∀ (charset0:Int) (t1:List Int),(qwx charset0 t1=true)→∃ n,qCD n charset0 t1=qux (z75 charset0 t1):=fun cs t h=>⟨0,by
 unfold qCD z75;rw [show qnr cs t=true from h];cases decide (0 < z74 cs) <;> rfl⟩
theorem qDS:∀ (t0:List Int),(qwu t0=true)→∃ n,qyE n t0=qhK (z77 t0).1 (z77 t0).2:=fun t h=>⟨t.length+1,by
 have hl:=qr (l:=t) h;unfold qyE z77;have:=qhg (t:=t) (dv:=0) (f:=fun c=>[(z113 c).1]) (q:=z106) (b:=1) (k0:=qey (t.length+1)) (R:=qhK [] 9)
  (L:=fun n out i=>qmd qhK (qey (t.length+1)) n out t ((t.length:Nat):Int) i) (fun x=>by simp) (fun n i out hi hb=>by
   show qex _ _ _ n _ _ _ _=_;unfold qex;simp (disch:=omega) only [dT,yc,yi,tn,ql,yg,List.length_nil,yD];show (bif !(z106 (t.getD i 0)) then _ else _)=_;cases z106 (t.getD i 0) <;> rfl) (fun n out=>by
   show qex _ _ _ n _ _ _ _=_;unfold qex;rw [dF (by omega)];rfl) t.length 0 (t.length+1) [] (by omega) (by omega) (by unfold room; simp; omega)
 refine this.trans ?_;rw [yw,qaC];cases t.all z106 <;> rfl⟩
theorem qDT:∀ (t0:List Int),(qwv t0=true)→∃ n,qyF n t0=quE (z78 t0).1 (z78 t0).2:=fun t h=>⟨t.length+1,by
 have hl:=qr (l:=t) h;unfold qyF z78;rw [show qnq t=true from h];cases decide (0≤z114 t) with
 | true=>rfl
 | false =>
  have:=qhg (t:=t) (dv:=0) (f:=fun c=>[(z115 c).1]) (q:=fun _=>true) (b:=1) (k0:=qeA (t.length+1)) (R:=none)
   (L:=fun n out i=>qme (qeA (t.length+1)) n out t ((t.length:Nat):Int) i) (fun x=>by simp) (fun n i out hi hb=>by
    show qez _ _ n _ _ _ _=_;unfold qez;simp (disch:=omega) only [dT,yc,yi,tn,ql,yg,List.length_nil,yD]) (fun n out=>by
    show qez _ _ n _ _ _ _=_;unfold qez;rw [dF (by omega)];rfl) t.length 0 (t.length+1) [] (by omega) (by omega) (by unfold room; simp; omega)
  simp (disch:=(first | omega | (unfold room; omega))) only [dT,yc,yd,yi];refine this.trans ?_;rw [yw,qaC,List.all_eq_true.2 (fun _ _=>rfl)];rfl⟩
theorem qvu (c:Int):(z112 [] c).1.length≤4:=by
 unfold z112;rcases qkZ c with e | e | e | e | e <;> rw [e] <;> simp
theorem qDU:∀ (t0:List Int),(qww t0=true)→∃ n,qyD n t0=quD (z76 t0).1 (z76 t0).2:=fun t h=>⟨t.length+1,by
 have hl:=qr (l:=t) h;unfold qyD z76;rw [show qpS t=true from h];cases !(z49 t) with
 | true=>rfl
 | false =>
  have:=qhg (t:=t) (dv:=0) (f:=fun c=>(z112 [] c).1) (q:=fun _=>true) (b:=4) (k0:=qew (t.length+1)) (R:=none)
   (L:=fun n out i=>qmc (qew (t.length+1)) n out t ((t.length:Nat):Int) i) qvu (fun n i out hi hb=>by
    show qev _ _ n _ _ _ _=_;unfold qev;have hp:=qvu (t.getD i 0);rw [show qnp ([]:List UInt8) (t.getD (Int.toNat (i:Int)) 0)=true from rfl];simp (disch:=omega) only [dT,yc,yi,tn,ql]) (fun n out=>by
    show qev _ _ n _ _ _ _=_;unfold qev;rw [dF (by omega)];rfl) t.length 0 (t.length+1) [] (by omega) (by omega) (by unfold room; simp; omega)
  simp only [yc,yd,yi];refine this.trans ?_;rw [yw,List.all_eq_true.2 (fun _ _=>rfl)];rfl⟩
theorem qDV:∀ (charset0:Int) (t1:List Int),(qwy charset0 t1=true)→∃ n,qCH n charset0 t1=qgQ (z44 charset0 t1).1 (z44 charset0 t1).2:=fun cs t h=>⟨0,by
 unfold qCH z44;rw [show qwx cs t=true from h,show qww t=true from h,show qwu t=true from h,show qwv t=true from h,show qpT t=true from h];cases (z74 cs==0) <;> cases z75 cs t <;> cases (cs==(5:Int)) <;> cases (cs==(3:Int)) <;> cases (cs==(4:Int)) <;> rfl⟩
theorem qDW:∀ (charset0:Int) (c1:Int),∃ n,qDe n charset0 c1=qgZ (z47 charset0 c1):=fun cs c=>⟨0,by
 unfold qDe z47;cases z82 cs c <;> cases (cs==(1:Int)) <;> cases (cs==(2:Int)) <;> cases (cs==(3:Int)) <;> cases (cs==(4:Int)) <;> rfl⟩
theorem qzI (c:Int):(z86 c).length≤4:=by
 unfold z86;cases z97 c <;> cases decide (c < (128:Int)) <;> cases decide (c < (2048:Int)) <;> cases decide (c < (65536:Int)) <;> simp
theorem qlb (cs c:Int):(z47 cs c).length≤4:=by
 unfold z47;have:=qzI c;cases z82 cs c <;> cases (cs==(1:Int)) <;> cases (cs==(2:Int)) <;> cases (cs==(3:Int)) <;> cases (cs==(4:Int)) <;> simp [this]
theorem qDX:∀ (charset0:Int) (t1:List Int),(qwz charset0 t1=true)→∃ n,qyQ n charset0 t1=qfn (z25 charset0 t1).1 (z25 charset0 t1).2:=fun cs t h=>⟨t.length+1,by
 have hl:=qr (l:=t) h;unfold qyQ z25;cases decide (cs < 1) <;> cases decide (5 < cs)
 ·have:=qhg (t:=t) (dv:=0) (f:=z47 cs) (q:=fun c=>(z47 cs c).length != 0) (b:=4) (k0:=qeN (t.length+1)) (R:=qfn [] 9)
   (L:=fun n out i=>qmp qfn (qeN (t.length+1)) n cs t out i) (qlb cs) (fun n i out hi hb=>by
    show qeM _ _ _ n _ _ _ _=_;unfold qeM;have hp:=qlb cs (t.getD i 0);simp (disch:=omega) only [dT,yc,yi,tn,ql];rw [show ((((z47 cs (t.getD i 0)).length:Nat):Int)==0) = !((z47 cs (t.getD i 0)).length != 0) from by
     cases (z47 cs (t.getD i 0)).length <;> rfl]
    cases (z47 cs (t.getD i 0)).length != 0 <;> rfl) (fun n out=>by
    show qeM _ _ _ n _ _ _ _=_;unfold qeM;rw [dF (by omega)];rfl) t.length 0 (t.length+1) [] (by omega) (by omega) (by unfold room; simp; omega)
  refine this.trans ?_;rw [yw];simp only [Bool.or_self,yd,List.nil_append];cases t.all (fun c=>(z47 cs c).length != 0) <;> rfl
 ·rfl
 ·rfl
 ·rfl⟩
theorem qce {t:List Int} (h:i32s t=true) {c:Int} (hc:c∈t) : -2147483648≤c∧c≤2147483647:=by
 unfold i32s at h;rw [List.all_eq_true] at h;simpa using h c hc
theorem qHj {c:Int} (h : -2147483648≤c∧c≤2147483647):IntKind.wrap .u32 c=if 0≤c then c else c+4294967296:=by
 by_cases h0:0≤c
 ·rw [if_pos h0,IntWalk.u32_in c (by omega)]
 ·rw [if_neg h0];have:IntKind.wrap .u32 c=c % 4294967296:=rfl;rw [this]; omega
theorem qfR {c:Int} (h : -2147483648≤c∧c≤2147483647):z108 c=z97 c:=by
 unfold z108 z97;rw [show z124 c=z127 c from rfl,← Bool.and_assoc,qHj h];congr 1;rw [Bool.eq_iff_iff];simp only [yf,ym];split <;> omega
theorem qmA {c:Int} (h : -2147483648≤c∧c≤2147483647):z105 c=(z83 c).2:=by
 unfold z105 z83;rw [qHj h];have:decide ((if 0≤c then c else c+4294967296) < 256)=(decide (0≤c)&&decide (c < 256)):=by
  rw [Bool.eq_iff_iff];simp only [yf,ym];split <;> omega
 rw [this];cases (decide (0≤c)&&decide (c < 256)) <;> rfl
theorem qHk (cs:Int) {c:Int} (h : -2147483648≤c∧c≤2147483647):z72 cs c=z82 cs c:=by
 unfold z72 z82;rw [qmA h,qfR h];rfl
theorem qmB (p:Int→Bool):∀ (t:List Int) (i:Int),0≤i→(qn p t i = -1∧t.all p=true)∨(0≤qn p t i∧t.all p=false)
 | [],_,_=>.inl ⟨rfl,rfl⟩
 | x :: r,i,hi=>by
  rw [show qn p (x :: r) i=bif p x then qn p r (i+1) else i from rfl,List.all_cons];cases p x with
  | true=>simpa using qmB p r (i+1) (by omega)
  | false=>exact .inr ⟨hi,rfl⟩
theorem qmC (p:Int→Bool) (t:List Int):(qn p t 0 == -1)=t.all p:=by
 rcases qmB p t 0 (by omega) with ⟨h1,h2⟩ | ⟨h1,h2⟩
 ·rw [h1,h2]; rfl
 ·rw [h2,beqF (by omega)]
theorem qvv (p:Int→Bool) (t:List Int):(qn p t 0 != -1) = !(t.all p):=by rw [← qmC]; rfl
theorem qHl (p:Int→Bool) (t:List Int):decide (0≤qn p t 0) = !(t.all p):=by
 rcases qmB p t 0 (by omega) with ⟨h1,h2⟩ | ⟨h1,h2⟩
 ·rw [h1,h2]; rfl
 ·rw [h2,dT h1]; rfl
theorem qzJ {p q:Int→Bool} {t:List Int} (h:∀ c∈t,p c=q c):t.all p=t.all q:=by
 rw [Bool.eq_iff_iff,List.all_eq_true,List.all_eq_true];exact ⟨fun k c hc=>by rw [← h c hc]; exact k c hc,fun k c hc=>by rw [h c hc]; exact k c hc⟩
theorem qbB {f g:Int→List UInt8}:∀ {t:List Int},(∀ c∈t,f c=g c)→t.flatMap f=t.flatMap g
 | [],_=>rfl
 | x :: r,h=>by rw [List.flatMap_cons,List.flatMap_cons,h x (by simp),qbB fun c hc=>h c (by simp [hc])]
theorem lead2:∀ i:Fin 32,(192:UInt8) ||| oct8 ((i.val:Nat):Int)=oct8 (192+((i.val:Nat):Int)):=by decide +kernel
theorem lead3:∀ i:Fin 16,(224:UInt8) ||| oct8 ((i.val:Nat):Int)=oct8 (224+((i.val:Nat):Int)):=by decide +kernel
theorem lead4:∀ i:Fin 8,(240:UInt8) ||| oct8 ((i.val:Nat):Int)=oct8 (240+((i.val:Nat):Int)):=by decide +kernel
theorem qvw:∀ i:Fin 256,foll ((i.val:Nat):Int)=oct8 (128+((i.val:Nat):Int) % 64):=by decide +kernel
theorem qDY (n:Int):oct8 n=oct8 (n % 256):=by
 unfold oct8;have:IntKind.wrap .u8 n=n % 256:=rfl;have h2:IntKind.wrap .u8 (n % 256)=n % 256 % 256:=rfl;rw [this,h2]; congr 1; congr 1; omega
theorem qHm (n:Int):foll n=oct8 (128+n % 64):=by
 have h:=qvw ⟨(n % 256).toNat,by omega⟩;simp only [Int.toNat_of_nonneg (show 0≤n % 256 by omega)] at h;rw [show n % 256 % 64=n % 64 by omega] at h;rw [← h];unfold foll;rw [← qDY]
theorem qJU {c:Int} (h:z97 c=true) (h32 : -2147483648≤c∧c≤2147483647):(z112 [] c).1=z86 c:=by
 have hs:=(qfR h32).trans h;have hr:0≤c∧c≤1114111:=by
  unfold z97 at h;simp only [yf,ym] at h;exact ⟨h.1,h.2.1⟩
 unfold z112 z128 z86;rw [hs,h];simp only [Bool.not_true,yd,qHm,Int.fdiv_eq_ediv_of_nonneg _ (show (0:Int)≤2 ^ 18 by decide),Int.fdiv_eq_ediv_of_nonneg _ (show (0:Int)≤2 ^ 12 by decide),Int.fdiv_eq_ediv_of_nonneg _ (show (0:Int)≤2 ^ 6 by decide),Int.fdiv_eq_ediv_of_nonneg _ (show (0:Int)≤2 ^ 0 by decide)];rw [show (2:Int) ^ 18=262144 from rfl,show (2:Int) ^ 12=4096 from rfl,show (2:Int) ^ 6=64 from rfl,show (2:Int) ^ 0=1 from rfl,Int.ediv_one]
 by_cases h1:c < 128
 ·rw [dT h1];show [(0:UInt8) ||| oct8 c]=[oct8 c];rw [UInt8.zero_or]
 ·rw [dF h1]
  by_cases h2:c < 2048
  ·rw [dT h2];have:=lead2 ⟨(c / 64).toNat,by omega⟩;simp only [Int.toNat_of_nonneg (show 0≤c / 64 by omega)] at this;show [(192:UInt8) ||| oct8 (c / 64),oct8 (128+c % 64)]=_;rw [this]; rfl
  ·rw [dF h2]
   by_cases h3:c < 65536
   ·rw [dT h3];have:=lead3 ⟨(c / 4096).toNat,by omega⟩;simp only [Int.toNat_of_nonneg (show 0≤c / 4096 by omega)] at this;show [(224:UInt8) ||| oct8 (c / 4096),oct8 (128+c / 64 % 64),oct8 (128+c % 64)]=_;rw [this]; rfl
   ·rw [dF h3];have:=lead4 ⟨(c / 262144).toNat,by omega⟩;simp only [Int.toNat_of_nonneg (show 0≤c / 262144 by omega)] at this;show [(240:UInt8) ||| oct8 (c / 262144),oct8 (128+c / 4096 % 64),oct8 (128+c / 64 % 64),oct8 (128+c % 64)]=_;rw [this]; rfl
theorem qzK {cs c:Int} (h:cs=1∨cs=2∨cs=3∨cs=4∨cs=5):((z47 cs c).length != 0)=z82 cs c:=by
 unfold z47;cases hh:z82 cs c with
 | false=>rfl
 | true =>
  rcases h with rfl | rfl | rfl | rfl | rfl
  ·rfl
  ·rfl
  ·rfl
  ·rfl
  ·have h3:z97 c=true:=hh;show ((z86 c).length != 0)=true;unfold z86;rw [h3];cases decide (c < (128:Int)) <;> cases decide (c < (2048:Int)) <;> cases decide (c < (65536:Int)) <;> rfl
theorem qHn {cs:Int} (h:cs=1∨cs=2∨cs=3∨cs=4∨cs=5):0 < z74 cs:=by
 rcases h with rfl | rfl | rfl | rfl | rfl <;> decide
theorem qJV (cs:Int) (t:List Int) (h:i32s t=true):z44 cs t=z25 cs t:=by
 by_cases hcs:cs=1∨cs=2∨cs=3∨cs=4∨cs=5
 ·have hsz:=qHn hcs;unfold z44 z25 z75 z111;rw [beqF (show z74 cs≠0 by omega),dT hsz,qmC,dF (show ¬ cs < 1 by omega),dF (show ¬ 5 < cs by omega),qzJ (q:=z82 cs) (fun c hc=>qHk cs (qce h hc)),qzJ (p:=fun c=>(z47 cs c).length != 0) (q:=z82 cs) (fun c _=>qzK hcs)];cases ha:t.all (z82 cs) with
  | false=>rfl
  | true =>
   rw [List.all_eq_true] at ha;show (bif cs==5 then z76 t else _)=(t.flatMap (z47 cs),0);rcases hcs with rfl | rfl | rfl | rfl | rfl
   ·show z52 t=_;have h2:t.all z105=true:=List.all_eq_true.2 fun c hc=>by
     have:=ha c hc;rw [qmA (qce h hc)];unfold z83;have h3:(decide (0≤c)&&decide (c < 128))=true:=this;simp only [yf,ym] at h3;rw [dT h3.1,dT (show c < 256 by omega)]; rfl
    unfold z52 z92;rw [qvv,h2];show (t.map _,(0:Int))=_;rw [← qaC];congr 1;exact qbB fun c hc=>by
     unfold z47;rw [ha c hc]; rfl
   ·show z52 t=_;have h2:t.all z105=true:=List.all_eq_true.2 fun c hc=>by rw [qmA (qce h hc)]; exact ha c hc
    unfold z52 z92;rw [qvv,h2];show (t.map _,(0:Int))=_;rw [← qaC];congr 1;exact qbB fun c hc=>by
     have h3:(z83 c).2=true:=ha c hc;unfold z47;rw [ha c hc];show _=[(z83 c).1];unfold z83 at h3 ⊢;cases h4:(decide (0≤c)&&decide (c < 256)) with
     | false=>rw [h4] at h3; cases h3
     | true =>
      simp only [yf,ym] at h4;rw [IntWalk.u8_in c (by omega)]; rfl
   ·show z77 t=_;unfold z77;rw [show t.all z106=true from List.all_eq_true.2 ha];show (t.map _,(0:Int))=_;rw [← qaC];congr 1;exact qbB fun c hc=>by
     unfold z47;rw [ha c hc]; rfl
   ·show z78 t=_;unfold z78 z114;rw [qHl,show t.all z107=true from List.all_eq_true.2 ha];show (t.map _,(0:Int))=_;rw [← qaC];congr 1;exact qbB fun c hc=>by
     unfold z47;rw [ha c hc]; rfl
   ·show z76 t=_;unfold z76 z49;rw [qmC,show t.all z108=true from List.all_eq_true.2 fun c hc=>(qfR (qce h hc)).trans (ha c hc)];show (t.flatMap _,(0:Int))=_;congr 1;exact qbB fun c hc=>by
     have h3:z97 c=true:=ha c hc;unfold z47;rw [ha c hc,qJU h3 (qce h hc)]; rfl
 ·simp only [not_or] at hcs;obtain ⟨h1,h2,h3,h4,h5⟩:=hcs;unfold z44 z25 z74;simp only [beqF h1,beqF h2,beqF h3,beqF h4,beqF h5,yd];rw [show (decide (cs < 1)||decide (5 < cs))=true by simp; omega];rfl
set_option linter.unusedSimpArgs false
theorem qDZ:∀ (x0:Int),(qwk x0=true)→∃ n,qCA n x0=qAd (z73 x0):=fun x h=>⟨0,by
 unfold qCA;rw [show qso x=true from h];rfl⟩
theorem qEa:∀ (sets0:Int),(qwl sets0=true)→∃ n,qCB n sets0=quu (z43 sets0):=fun s h=>⟨0,by
 have h':=of_decide_eq_true h;unfold qCB z43;cases (s==0) with
 | true=>rfl
 | false =>
  have hw:IntKind.wrap .u64 s=s:=by
   exact IntWalk.u64_in s (by omega)
  rw [hw,show qwk s=true from yo (by omega)];rfl⟩
theorem qEb:∀ (charset0:Int) (t1:List Int),(qwm charset0 t1=true)→∃ n,qyO n charset0 t1=qkO (z81 charset0 t1):=fun cs t h=>⟨t.length+1,by
 have hl:=qr (l:=t) h;unfold qyO z81;refine qdd (qbk (L:=fun n i=>qmo qkO (qgY (t.length+1)) n cs t i) hl (fun n i hi=>?_) (fun n=>?_) t.length 0 (t.length+1) (by omega) (by omega)) rfl
 ·show qeK _ _ _ n _ _ _=_;unfold qeK;simp (disch:=omega) only [dT,yc,yi,tn,ql];cases z82 cs (t.getD i 0) <;> rfl
 ·show qeK _ _ _ n _ _ _=_;unfold qeK;rw [dF (by omega)];rfl⟩
theorem qEc:∀ (charset0:Int) (t1:List Int),(qwn charset0 t1=true)→∃ n,qDc n charset0 t1=qpg (z46 charset0 t1):=fun cs t h=>⟨0,by
 unfold qDc z46;rw [show qwm cs t=true from h];cases decide (1≤cs) <;> cases decide (cs≤5) <;> rfl⟩
theorem qEd:∀ (t0:List Int),(qpP t0=true)→∃ n,qyP n t0=qdN (z24 t0).1 (z24 t0).2:=fun t h=>⟨6,by
 have ha:∀ n,qwn n t=true:=fun _=>h;have step:∀ (k:Nat) (i:Int),i≤5→qjh qdN (qda 6) (k+1) t i=bif z46 i t then qdN i 0 else qjh qdN (qda 6) k t (IntKind.wrap .i64 (i+1)):=fun k i hi=>by
  show qeL _ _ _ k _ _=_;unfold qeL;rw [dT hi,ha];rfl
 have last:∀ (k:Nat),qjh qdN (qda 6) (k+1) t 6=qdN 0 7:=fun k=>by
  show qeL _ _ _ k _ _=_;unfold qeL;rw [dF (by omega)];rfl
 unfold qyP z24 selF qpN;rw [step 5 1 (by omega),show IntKind.wrap .i64 (1+1)=2 from rfl,step 4 2 (by omega),show IntKind.wrap .i64 (2+1)=3 from rfl,step 3 3 (by omega),show IntKind.wrap .i64 (3+1)=4 from rfl,step 2 4 (by omega),show IntKind.wrap .i64 (4+1)=5 from rfl,
  step 1 5 (by omega),show IntKind.wrap .i64 (5+1)=6 from rfl,last 0]
 simp only [];cases z46 1 t <;> cases z46 2 t <;> cases z46 3 t <;> cases z46 4 t <;> cases z46 5 t <;> rfl⟩
theorem qEe:∀ a b c d e:Bool,(bif e then bits .or .i64 (bif d then bits .or .i64 (bif c then bits .or .i64 (bif b then bits .or .i64 (bif a then bits .or .i64 0 2 else 0) 4 else (bif a then bits .or .i64 0 2 else 0)) 8 else (bif b then bits .or .i64 (bif a then bits .or .i64 0 2 else 0) 4 else (bif a then bits .or .i64 0 2 else 0))) 16 else (bif c then bits .or .i64 (bif b then bits .or .i64 (bif a then bits .or .i64 0 2 else 0) 4 else (bif a then bits .or .i64 0 2 else 0)) 8 else (bif b then bits .or .i64 (bif a then bits .or .i64 0 2 else 0) 4 else (bif a then bits .or .i64 0 2 else 0)))) 32 else
 (bif d then bits .or .i64 (bif c then bits .or .i64 (bif b then bits .or .i64 (bif a then bits .or .i64 0 2 else 0) 4 else (bif a then bits .or .i64 0 2 else 0)) 8 else (bif b then bits .or .i64 (bif a then bits .or .i64 0 2 else 0) 4 else (bif a then bits .or .i64 0 2 else 0))) 16 else (bif c then bits .or .i64 (bif b then bits .or .i64 (bif a then bits .or .i64 0 2 else 0) 4 else (bif a then bits .or .i64 0 2 else 0)) 8 else (bif b then bits .or .i64 (bif a then bits .or .i64 0 2 else 0) 4 else (bif a then bits .or .i64 0 2 else 0)))))=maskB a b c d e:=by decide +kernel
theorem qHo:∀ a b c d e a' b' c' d' e':Bool,bits .and .i64 (maskB a b c d e) (maskB a' b' c' d' e')=maskB (a&&a') (b&&b') (c&&c') (d&&d') (e&&e'):=by decide +kernel
theorem qHp:∀ a b c d e:Bool,z43 (maskB a b c d e)=bif a then 1 else bif b then 2 else bif c then 3 else bif d then 4 else bif e then 5 else 0:=by decide +kernel
theorem qEf:∀ a b c d e:Bool,(maskB a b c d e==0) = !(a||b||c||d||e):=by decide +kernel
theorem qJW:∀ a b c d e:Bool,0≤maskB a b c d e∧maskB a b c d e < 64:=by decide +kernel
theorem qEg:∀ (c0:Int),∃ n,qyz n c0=qut (z42 c0):=fun c=>⟨6,by
 have w:∀ i:Nat,i < 10→IntKind.wrap .i64 ((i:Int)+1)=((i+1:Nat):Int):=fun i h=>ql (by omega);have step:∀ (k i:Nat) (s:Int),i < 5→qiY (qcX 6) (k+1) c s (i:Int)=qiY (qcX 6) k c (bif z72 ((i+1:Nat):Int) c then bits .or .i64 s (IntKind.wrap .i64 ((1:Int)*2 ^ (min (i+1) (IntKind.bits .i64)))) else s) ((i+1:Nat):Int):=fun k i s hi=>by
  show qeo _ _ k _ _ _=_;unfold qeo;rw [dT (show (i:Int) < 5 by omega),w i (by omega)];cases z72 ((i+1:Nat):Int) c with
  | true =>
   rw [dT (show (0:Int)≤((i+1:Nat):Int) by omega),tn];rfl
  | false=>rfl
 have last:∀ (k:Nat) (s:Int),qiY (qcX 6) (k+1) c s (5:Nat)=qut s:=fun k s=>by
  show qeo _ _ k _ _ _=_;unfold qeo;rw [dF (by omega)];rfl
 unfold qyz z42 maskF;rw [show (0:Int)=((0:Nat):Int) from rfl,step 5 0 _ (by omega),step 4 1 _ (by omega),step 3 2 _ (by omega),step 2 3 _ (by omega),step 1 4 _ (by omega),last 0];simp only [];rw [← qEe (z72 1 c) (z72 2 c) (z72 3 c) (z72 4 c) (z72 5 c)];rfl⟩
def qpl (t:List Int) (a b c d e:Bool):Int:=maskB (a&&t.all (z72 1)) (b&&t.all (z72 2)) (c&&t.all (z72 3)) (d&&t.all (z72 4)) (e&&t.all (z72 5))
theorem qhU (t:List Int) (hl:t.length≤1048576):∀ (d i n:Nat) (a b c x e:Bool),i+d=t.length→d < n →
 qma (qcY (t.length+1)) n (maskB a b c x e) t ((t.length:Nat):Int) (i:Int)=qcY (t.length+1) (qpl (t.drop i) a b c x e)
 | d,i,0,a,b,c,x,e,hi,hn=>by omega
 | 0,i,n+1,a,b,c,x,e,hi,hn=>by
  obtain rfl:i=t.length:=by omega
  show qep _ _ n _ _ _ _=_;unfold qep;rw [dF (by omega),yA (yv _)];simp [qpl]
 | d+1,i,n+1,a,b,c,x,e,hi,hn=>by
  have hlt:i < t.length:=by omega
  show qep _ _ n _ _ _ _=_;unfold qep;simp (disch:=omega) only [dT,yc,yi,tn,ql];unfold z42 maskF;rw [qHo,qhU t hl d (i+1) n _ _ _ _ _ (by omega) (by omega),qM (d:=(0:Int)) hlt];unfold qpl;simp only [List.all_cons,Bool.and_assoc]
theorem qEh:∀ (t0:List Int),(qpO t0=true)→∃ n,qyA n t0=quv (z22 t0).1 (z22 t0).2:=fun t h=>⟨t.length+1,by
 have hl:=qr (l:=t) h;unfold qyA;have h0:=qhU t hl t.length 0 (t.length+1) true true true true true (by omega) (by omega);rw [show maskB true true true true true=62 from rfl] at h0;refine h0.trans ?_;unfold qpl qcY z22 selF qpN;simp only [yZ,yw];rw [qEf,qHp,show ∀ z,0≤z∧z < 64→qwl z=true from fun z hz=>yo hz]
 ·cases t.all (z72 1) <;> cases t.all (z72 2) <;> cases t.all (z72 3) <;> cases t.all (z72 4) <;> cases t.all (z72 5) <;> rfl
 ·exact qJW _ _ _ _ _⟩
theorem qlc {p:Int→Bool}:∀ (t:List Int) (i:Nat),decide (qn p t i < 0)=t.all p
 | [],i=>rfl
 | c :: r,i=>by
  rw [show qn p (c :: r) (i:Int)=bif p c then qn p r ((i+1:Nat):Int) else (i:Int) from rfl,List.all_cons];cases p c with
  | true=>exact qlc r (i+1)
  | false=>exact dF (by show ¬ (i:Int) < 0; omega)
end Go.Av
