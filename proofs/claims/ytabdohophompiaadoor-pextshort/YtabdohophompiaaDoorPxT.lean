import Derived.Test.YtabdohophompiaaDoorPxSh
import Derived.Test.YtabdohophompiaaDoorEfL
import Derived.Test.YtabdohophompiaaDoorAvE
import Derived.Lib.IndexAny
import Derived.Lib.IndexMore
import Derived.Lib.IndexBytes
import Derived.IntWalk
import Derived.KernelRfl
namespace Go.Av
set_option linter.unusedVariables false
theorem quQ:∀ (c0:UInt8),∃ n,quc n c0=qi (z73 c0):=fun c=>⟨0,by
 unfold quc qcM qV z73 qjH orI;cases decide (c < (32:UInt8)) <;> cases (c==(127:UInt8)) <;> cases (c==(32:UInt8)) <;> cases (c==(9:UInt8)) <;> cases decide ((48:UInt8)≤c) <;> cases decide (c≤(57:UInt8)) <;> cases decide ((65:UInt8)≤c) <;> cases decide (c≤(90:UInt8)) <;> cases decide ((97:UInt8)≤c) <;> cases decide (c≤(122:UInt8)) <;> rfl⟩
theorem quR:∀ (s0:List UInt8) (c1:UInt8),∃ n,qwP n s0 c1=qrS (z84 s0 c1):=fun _ _=>⟨0,rfl⟩
theorem quS:∀ (s0:List UInt8) (c1:UInt8),∃ n,qwQ n s0 c1=qrT (z79 s0 c1):=fun _ _=>⟨0,rfl⟩
theorem quT:∀ (s0:List UInt8) (c1:UInt8),∃ n,qwR n s0 c1=qrU (z74 s0 c1):=fun _ _=>⟨0,rfl⟩
theorem quU:∀ (c0:UInt8),∃ n,qud n c0=qaE (z70 c0):=fun c=>⟨0,by
 unfold qud qbf qcN qaL z70 qpF orI;cases decide (c < (33:UInt8)) <;> cases decide ((126:UInt8) < c) <;> cases z74 [33,42,43,45,47] c <;> cases z74 [43,47] c <;> cases z74 [40,41,60,62,64,44,59,58,92,34,47,91,93,63,61] c <;> cases z74 [42,39,37] c <;> rfl⟩
theorem quV:∀ (c0:UInt8) (kinds1:Int),∃ n,qwS n c0 kinds1=qrV (z62 c0 kinds1):=fun _ _=>⟨0,rfl⟩
theorem dT {p:Prop} [Decidable p] (h:p):decide p=true:=yo h
theorem dF {p:Prop} [Decidable p] (h:¬ p):decide p=false:=decide_eq_false h
theorem wr {x:Int} (h : -9223372036854775808≤x∧x≤9223372036854775807):IntKind.wrap .i64 x=x:=IntWalk.i64_in x h
theorem tn (i:Nat):Int.toNat (i:Int)=i:=Int.toNat_natCast i
theorem qap {α:Type} {l:List α} (h:l.length≤1048576):lenOk l=true:=by unfold lenOk; rw [ym]; exact h
theorem qov (p:UInt8→Bool) (s:List UInt8):(((s.countP p:Nat):Int)==((s.length:Nat):Int))=s.all p:=by
 rw [Bool.eq_iff_iff];simp only [beq_iff_eq,List.all_eq_true];have:=List.countP_eq_length (p:=p) (l:=s);constructor
 ·intro h; exact this.1 (by omega)
 ·intro h; have:=this.2 h; omega
theorem qxa {P:UInt8→Prop} (h:∀ i:Fin 256,P (UInt8.ofNat i.val)) (c:UInt8):P c:=by
 have:=h ⟨c.toNat,c.toNat_lt⟩;simpa using this
theorem and15 (n:Int):bits .and .i64 n 15=n % 16:=by
 have h:(BitVec.ofInt 64 n &&& BitVec.ofInt 64 15).toNat=(n % 16).toNat:=by
  rw [BitVec.toNat_and];have h1:(BitVec.ofInt 64 15).toNat=2 ^ 4 - 1:=by decide
  rw [h1,Nat.and_two_pow_sub_one_eq_mod,BitVec.toNat_ofInt];omega
 show IntKind.wrap .i64 (((BitVec.ofInt 64 n &&& BitVec.ofInt 64 15).toNat:Nat):Int)=_;rw [h,IntWalk.i64_in _ (by omega)];omega
theorem quW:∀ (n0:Int),(qfz n0=true)→∃ n,quF n n0=qsk (z71 n0):=fun n _=>⟨0,by
 unfold quF z71;rw [and15];have h0:(0:Int)≤n % 16:=by omega
 have h1:n % 16 < (((([48,49,50,51,52,53,54,55,56,57,65,66,67,68,69,70]:List UInt8).length:Nat)):Int):=by simp; omega
 rw [yo h0,yo h1];rfl⟩
theorem qxb {P:UInt8→Prop} (h:∀ i:Fin 256,P (UInt8.ofNat i.val)) (c:UInt8):P c:=by
 have:=h ⟨c.toNat,c.toNat_lt⟩;simpa using this
theorem qow:∀ i:Fin 256,[z71 (IntKind.wrap .i64 ((UInt8.toNat (UInt8.ofNat (UInt8.toNat (UInt8.ofNat i.val) / 2 ^ (min (Int.toNat (4:Int)) 8))):Nat):Int)),z71 (IntKind.wrap .i64 ((UInt8.toNat (UInt8.ofNat i.val):Nat):Int))]=z63 (UInt8.ofNat i.val):=by decide +kernel
theorem qlG:∀ i:Fin 256,qU (IntKind.wrap .i64 (Int.tdiv (IntKind.wrap .i64 ((UInt8.toNat (UInt8.ofNat i.val):Nat):Int)) (16:Int)))=true∧qU (Int.tmod (IntKind.wrap .i64 ((UInt8.toNat (UInt8.ofNat i.val):Nat):Int)) (16:Int))=true ∧
 qfz (IntKind.wrap .i64 ((UInt8.toNat (UInt8.ofNat (UInt8.toNat (UInt8.ofNat i.val) / 2 ^ (min (Int.toNat (4:Int)) 8))):Nat):Int))=true∧qfz (IntKind.wrap .i64 ((UInt8.toNat (UInt8.ofNat i.val):Nat):Int))=true:=by decide +kernel
theorem boths (c:UInt8):[z71 (IntKind.wrap .i64 ((UInt8.toNat (UInt8.ofNat (UInt8.toNat c / 2 ^ (min (Int.toNat (4:Int)) 8))):Nat):Int)),z71 (IntKind.wrap .i64 ((UInt8.toNat c:Nat):Int))]=z63 c:=qxb (P:=fun c=>[z71 (IntKind.wrap .i64 ((UInt8.toNat (UInt8.ofNat (UInt8.toNat c / 2 ^ (min (Int.toNat (4:Int)) 8))):Nat):Int)),z71 (IntKind.wrap .i64 ((UInt8.toNat c:Nat):Int))]=z63 c) qow c
theorem qyI (c:UInt8):qU (IntKind.wrap .i64 (Int.tdiv (IntKind.wrap .i64 ((UInt8.toNat c:Nat):Int)) (16:Int)))=true∧qU (Int.tmod (IntKind.wrap .i64 ((UInt8.toNat c:Nat):Int)) (16:Int))=true ∧
 qfz (IntKind.wrap .i64 ((UInt8.toNat (UInt8.ofNat (UInt8.toNat c / 2 ^ (min (Int.toNat (4:Int)) 8))):Nat):Int))=true∧qfz (IntKind.wrap .i64 ((UInt8.toNat c:Nat):Int))=true:=qxb (P:=fun c=>qU (IntKind.wrap .i64 (Int.tdiv (IntKind.wrap .i64 ((UInt8.toNat c:Nat):Int)) (16:Int)))=true∧qU (Int.tmod (IntKind.wrap .i64 ((UInt8.toNat c:Nat):Int)) (16:Int))=true ∧
 qfz (IntKind.wrap .i64 ((UInt8.toNat (UInt8.ofNat (UInt8.toNat c / 2 ^ (min (Int.toNat (4:Int)) 8))):Nat):Int))=true∧qfz (IntKind.wrap .i64 ((UInt8.toNat c:Nat):Int))=true) qlG c
theorem quX:∀ (c0:UInt8),∃ n,quG n c0=qsl (z63 c0):=fun c=>⟨0,by
 obtain ⟨_,_,h1,h2⟩:=qyI c;unfold quG;rw [h1,h2,boths];rfl⟩
theorem quY:∀ (b0:List UInt8) (sign1:UInt8) (c2:UInt8),(qpu b0 sign1 c2=true)→∃ n,quH n b0 sign1 c2=qsm (z45 b0 sign1 c2):=fun b sign c h=>⟨0,by
 have hl:=qJ h;unfold quH z45 qeY z19;rw [show lenOk b=true from h,yi,yc,yo (by unfold room; simp; omega),yc,yo (by unfold room z63; simp; omega),yc,yl];rfl⟩
theorem beqT {a b:Int} (h:a=b):(a==b)=true:=by simp [h]
theorem beqF {a b:Int} (h:a≠b):(a==b)=false:=by simp [h]
def okc (c:UInt8):Bool:=(c==13)||(c==10)||(c==9)||(decide (32≤c)&&decide (c≤126))
set_option linter.unusedSimpArgs false
theorem qbk {t:List Int} {p:Int→Bool} {k0:Option AV} {ret:Int→Option AV} {L:Nat→Int→Option AV} (hl:t.length≤1048576)
 (hL:∀ n (i:Nat),i < t.length→L (n+1) (i:Int)=bif p (t.getD i 0) then L n ((i+1:Nat):Int) else ret (i:Int)) (hE:∀ n,L (n+1) (t.length:Nat)=k0) :
 ∀ d i n:Nat,i+d=t.length→d < n→L n (i:Int)=bif qan p (t.drop i) i == -1 then k0 else ret (qan p (t.drop i) i)
 | d,i,0,hi,hn=>by omega
 | 0,i,n+1,hi,hn=>by
  obtain rfl:i=t.length:=by omega
  rw [hE,yz (by omega)];rfl
 | d+1,i,n+1,hi,hn=>by
  have hlt:i < t.length:=by omega
  rw [hL n i hlt,qbk hl hL hE d (i+1) n (by omega) (by omega),qat (d:=(0:Int)) hlt];rw [show qan p (t.getD i 0 :: t.drop (i+1)) (i:Int)=bif p (t.getD i 0) then qan p (t.drop (i+1)) ((i+1:Nat):Int) else (i:Int) from rfl];cases p (t.getD i 0) with
  | true=>rfl
  | false =>
   have:((i:Int) == -1)=false:=by simp only [beq_eq_false_iff_ne,ne_eq]; omega
   simp [this]
theorem quZ:∀ (n0:Int),∃ n,quB n n0=qhY (z67 n0):=fun c=>⟨0,by
 unfold quB z67;cases (c==(2:Int)) <;> cases (c==(3:Int)) <;> cases (c==(4:Int)) <;> rfl⟩
theorem qva:∃ n,qwV n  = qsf z68:=⟨0,rfl⟩
theorem qvb:∃ n,qwX n  = qsh z69:=⟨0,rfl⟩
theorem qvc {α β:Type} (f:α→β) (t:List α) (z:β) (i:Nat) (h:i < t.length) (d:α) :
 ((t.take i).map f++List.replicate (t.length - i) z).set i (f (t.getD i d))=(t.take (i+1)).map f++List.replicate (t.length - (i+1)) z:=by
 rw [List.set_append_right _ _ (by simp; omega)];have h1:((t.take i).map f).length=i:=by simp; omega
 rw [h1,Nat.sub_self,show t.length - i=(t.length - (i+1))+1 by omega,List.replicate_succ,List.set_cons_zero,List.take_succ_eq_append_getElem h,List.map_append,yl];simp [List.getD,h]
theorem qgW {α β:Type} {t:List α} {dv:α} {f:α→List β} {q:α→Bool} {k0:List β→Option AV} {R:Option AV} {L:Nat→List β→Int→Option AV} {b:Nat} (hf:∀ x,(f x).length≤b)
 (hL:∀ (n i:Nat) (out:List β),i < t.length→out.length+b≤room→L (n+1) out (i:Int)=bif q (t.getD i dv) then L n (out++f (t.getD i dv)) ((i+1:Nat):Int) else R) (hE:∀ n out,L (n+1) out ((t.length:Nat):Int)=k0 out) :
 ∀ (d i n:Nat) (out:List β),i+d=t.length→d < n→out.length+b*d≤room→L n out (i:Int)=bif (t.drop i).all q then k0 (out++(t.drop i).flatMap f) else R
 | d,i,0,out,hi,hn,_=>by omega
 | 0,i,n+1,out,hi,hn,_=>by
  obtain rfl:i=t.length:=by omega
  rw [hE,yz (by omega)];simp
 | d+1,i,n+1,out,hi,hn,hb=>by
  have hlt:i < t.length:=by omega
  have hx:=hf (t.getD i dv);have hb':b*(d+1)=b*d+b:=by rw [Nat.mul_succ]
  have h0:0≤b*d:=Nat.zero_le _;rw [hL n i out hlt (by omega),qgW (α:=α) (β:=β) hf hL hE d (i+1) n _ (by omega) (by omega) (by rw [yn]; omega),qat (d:=dv) hlt];simp only [List.all_cons,List.flatMap_cons,yl];cases q (t.getD i dv) <;> rfl
theorem qvd:∀ (charset0:Int),∃ n,quM n charset0=qfm (z47 charset0):=fun cs=>⟨0,by
 unfold quM z47;cases (cs==(1:Int)) <;> cases (cs==(2:Int)) <;> cases (cs==(3:Int)) <;> cases (cs==(4:Int)) <;> cases (cs==(5:Int)) <;> rfl⟩
theorem qve:∀ (charset0:Int),∃ n,quN n charset0=qot (z26 charset0):=fun cs=>⟨0,by
 unfold quN z26 z47;cases (cs==(1:Int)) <;> cases (cs==(2:Int)) <;> cases (cs==(3:Int)) <;> cases (cs==(4:Int)) <;> cases (cs==(5:Int)) <;> rfl⟩
theorem qdH (cs:Int):(z26 cs).length≤12:=by
 unfold z26 z47;cases (cs==(1:Int)) <;> cases (cs==(2:Int)) <;> cases (cs==(3:Int)) <;> cases (cs==(4:Int)) <;> cases (cs==(5:Int)) <;> decide
theorem qox {α β:Type} (f:α→β):∀ l:List α,l.flatMap (fun x=>[f x])=l.map f
 | []=>rfl
 | x :: r=>by rw [List.flatMap_cons,qox f r]; rfl
theorem qvf:∀ (c0:Int),∃ n,quh n c0=qof (z65 c0):=fun c=>⟨0,by
 unfold quh z65;cases decide ((55296:Int)≤c) <;> rfl⟩
theorem qvg:∀ (c0:Int),∃ n,qui n c0=qog (z51 c0):=fun c=>⟨0,by
 unfold qui z51;cases decide (IntKind.wrap .u32 c≤1114111) <;> rfl⟩
theorem qvh:∀ (c0:Int),∃ n,qwT n c0=qrX (z50 c0):=fun _=>⟨0,rfl⟩
theorem qdI {p:Int→Bool} {t:List Int} {k0:Option AV} {ret:Int→Option AV} {x:Option AV} (h:x=bif qan p (t.drop 0) (0:Nat) == -1 then k0 else ret (qan p (t.drop 0) (0:Nat))) (hk:k0=ret (-1)):x=ret (qan p t 0):=by
 rw [h,yw];cases e:(qan p t (0:Nat) == -1) with
 | true =>
  rw [beq_iff_eq] at e;have e':qan p t 0 = -1:=e;rw [e',hk];rfl
 | false=>rfl
theorem qvi:∀ (s0:List Int) (v1:Int),(qlb s0 v1=true)→∃ n,qrp n s0 v1=qhV (z31 s0 v1):=fun t v h=>⟨t.length+1,by
 have hl:=qJ (l:=t) h;unfold qrp z31;refine qdI (qbk (L:=fun n i=>qiL qhV (qfg (t.length+1)) n t v ((t.length:Nat):Int) i) hl (fun n i hi=>?_) (fun n=>?_) t.length 0 (t.length+1) (by omega) (by omega)) rfl
 ·show qdk _ _ _ n _ _ _ _=_;unfold qdk;simp (disch:=omega) only [dT,yc,yi,tn,qE];cases (v==t.getD i 0) <;> rfl
 ·show qdk _ _ _ n _ _ _ _=_;unfold qdk;rw [dF (by omega)];rfl⟩
theorem qlH:∀ (t:List Int),(qfA t=true)→∃ n,qep n t=qbC (z49 t):=fun t h=>⟨t.length+1,by
 have hl:=qJ (l:=t) h;unfold qep z49;refine qdI (qbk (L:=fun n i=>qbg qbC (qaV (t.length+1)) n t ((t.length:Nat):Int) i) hl (fun n i hi=>?_) (fun n=>?_) t.length 0 (t.length+1) (by omega) (by omega)) rfl
 ·show qax _ _ _ n _ _ _=_;unfold qax;simp (disch:=omega) only [dT,yc,yi,tn,qE];unfold z50;cases z51 (t.getD i 0) <;> rfl
 ·show qax _ _ _ n _ _ _=_;unfold qax;rw [dF (by omega)];rfl⟩
theorem qvj:∀ (t:List Int),(qpx t=true)→∃ n,qrx n t=qhZ (z60 t):=fun t h=>⟨t.length+1,by
 have hl:=qJ (l:=t) h;unfold qrx z60;refine qdI (qbk (L:=fun n i=>qiR qhZ (qfk (t.length+1)) n t ((t.length:Nat):Int) i) hl (fun n i hi=>?_) (fun n=>?_) t.length 0 (t.length+1) (by omega) (by omega)) rfl
 ·show qdw _ _ _ n _ _ _=_;unfold qdw;simp (disch:=omega) only [dT,yc,yi,tn,qE];cases z54 (t.getD i 0) <;> rfl
 ·show qdw _ _ _ n _ _ _=_;unfold qdw;rw [dF (by omega)];rfl⟩
theorem qvk:∀ (t:List Int),(qpy t=true)→∃ n,qrq n t=qhW (z34 t):=fun t h=>⟨t.length+1,by
 have hl:=qJ (l:=t) h;unfold qrq z34;refine qdI (qbk (L:=fun n i=>qiM qhW (qfh (t.length+1)) n t ((t.length:Nat):Int) i) hl (fun n i hi=>?_) (fun n=>?_) t.length 0 (t.length+1) (by omega) (by omega)) rfl
 ·show qdl _ _ _ n _ _ _=_;unfold qdl;simp (disch:=omega) only [dT,yc,yi,tn,qE];cases z52 (t.getD i 0) <;> rfl
 ·show qdl _ _ _ n _ _ _=_;unfold qdl;rw [dF (by omega)];rfl⟩
theorem qvl:∀ (cs:Int) (t:List Int),(qpC cs t=true)→∃ n,qru n cs t=qhX (z57 cs t):=fun cs t h=>⟨t.length+1,by
 have hl:=qJ (l:=t) h;unfold qru z57;refine qdI (qbk (L:=fun n i=>qiO qhX (qfj (t.length+1)) n cs t ((t.length:Nat):Int) i) hl (fun n i hi=>?_) (fun n=>?_) t.length 0 (t.length+1) (by omega) (by omega)) rfl
 ·show qdr _ _ _ n _ _ _ _=_;unfold qdr;simp (disch:=omega) only [dT,yc,yi,tn,qE];cases z37 cs (t.getD i 0) <;> rfl
 ·show qdr _ _ _ n _ _ _ _=_;unfold qdr;rw [dF (by omega)];rfl⟩
theorem qvm:∀ (t0:List Int),(qpv t0=true)→∃ n,quj n t0=qrY (z30 t0):=fun t h=>⟨0,by
 unfold quj;rw [show qfA t=true from h];rfl⟩
theorem qvn:∀ (t0:List Int),(qlc t0=true)→∃ n,quk n t0=qrZ (z15 t0):=fun t h=>⟨0,by
 unfold quk;rw [show qpv t=true from h];rfl⟩
theorem qvo:∀ (c0:Int),∃ n,quA n c0=qfR (z66 c0):=fun c=>⟨0,by
 unfold quA z66;cases z51 c <;> cases decide (c < (128:Int)) <;> cases decide (c < (2048:Int)) <;> cases decide (c < (65536:Int)) <;> rfl⟩
theorem qky (c:Int):z66 c=0∨z66 c=1∨z66 c=2∨z66 c=3∨z66 c=4:=by
 unfold z66;cases z51 c <;> cases decide (c < (128:Int)) <;> cases decide (c < (2048:Int)) <;> cases decide (c < (65536:Int)) <;> simp
theorem qvp:∀ (b0:List UInt8) (c1:Int),(qpw b0 c1=true)→∃ n,quC n b0 c1=qfS (z58 b0 c1).1 (z58 b0 c1).2:=fun b c h=>⟨0,by
 have hl:=qJ (l:=b) h;unfold quC qae qbj qcO qbi qgQ z58;rw [show qeY b=true from h,show z19 b=b from rfl];have hr:∀ (l m:List UInt8),l.length≤1048580→m.length≤10→decide (l.length+m.length≤room)=true:=fun l m h1 h2=>dT (by unfold room; omega);rcases qky c with e | e | e | e | e <;> rw [e]
 ·rfl
 ·rw [hr b _ (by omega) (by simp)]; rfl
 ·simp only [show ((2:Int)==0)=false from rfl,show ((2:Int)==4)=false from rfl,show ((2:Int)==3)=false from rfl,show ((2:Int)==2)=true from rfl,yd,yc];rw [hr b _ (by omega) (by simp),hr (b++_) _ (by simp; omega) (by simp)];simp only [yl]; rfl
 ·simp only [show ((3:Int)==0)=false from rfl,show ((3:Int)==4)=false from rfl,show ((3:Int)==3)=true from rfl,yd,yc];rw [hr b _ (by omega) (by simp),hr (b++_) _ (by simp; omega) (by simp),hr (b++_++_) _ (by simp; omega) (by simp)];simp only [yl]; rfl
 ·simp only [show ((4:Int)==0)=false from rfl,show ((4:Int)==4)=true from rfl,yd,yc];rw [hr b _ (by omega) (by simp),hr (b++_) _ (by simp; omega) (by simp),hr (b++_++_) _ (by simp; omega) (by simp),hr (b++_++_++_) _ (by simp; omega) (by simp)];simp only [yl]; rfl⟩
theorem qoy {β:Type} (ret:UInt8→Bool→β) (b:Bool) (x y:UInt8×Bool):ret (bif b then x else y).1 (bif b then x else y).2=bif b then ret x.1 x.2 else ret y.1 y.2:=by cases b <;> rfl
theorem qvq:∀ (c0:Int),∃ n,qus n c0=qdS (z59 c0).1 (z59 c0).2:=fun c=>⟨9,by
 unfold z59;simp only [qoy];rw [show (bif decide (c < 0)||decide (256≤c) then qdS (0,false).1 (0,false).2 else qdS (oct8 c,true).1 (oct8 c,true).2)=qdp 9 c from by
  unfold qdp;cases decide (c < (0:Int)) <;> cases decide ((256:Int)≤c) <;> rfl]
 rfl⟩
theorem qvr:∀ (c0:Int),∃ n,qwW n c0=qsg (z53 c0):=fun _=>⟨0,rfl⟩
theorem qvs:∀ (c0:Int),∃ n,qut n c0=qad (z61 c0).1 (z61 c0).2:=fun c=>⟨0,by
 unfold qut qbO qbN qbM z61;rw [show qlb z69 c=true from by show lenOk z69=true; decide];have h1:decide (0≤c)=false→decide (c < 256)=true:=by simp; omega
 have h2:decide (c < 128)=true→decide (c < 256)=true:=by simp; omega
 have h3:decide (160≤c)=true→decide (0≤c)=true:=by simp; omega
 have h4:decide (160≤c)=true→decide (c < 128)=false:=by simp; omega
 have h5:decide (160≤c)=false→decide (c < 256)=true:=by simp; omega
 simp only [qoy];revert h1 h2 h3 h4 h5;cases decide ((0:Int)≤c) <;> cases decide (c < (128:Int)) <;> cases decide ((160:Int)≤c) <;> cases decide (c < (256:Int)) <;> cases decide (z31 z69 c < (0:Int)) <;> intro h1 h2 h3 h4 h5 <;> first | rfl | (exfalso; revert h1 h2 h3 h4 h5; decide)⟩
theorem qvt:∀ (c0:Int),∃ n,qwY n c0=qsi (z54 c0):=fun _=>⟨0,rfl⟩
theorem qvu:∀ (c0:Int),∃ n,qwU n c0=qsd (z52 c0):=fun _=>⟨0,rfl⟩
theorem qoz (k0:List UInt8→Option AV) (t:List Int) (hl:t.length≤1048576):∀ (d i n:Nat),i+d=t.length→d < n →
 qgO k0 n ((t.take i).map (fun c=>UInt8.ofNat (Int.toNat (IntKind.wrap .u8 c)))++List.replicate (t.length - i) 0) t (t.length:Nat) (i:Nat)=k0 (t.map fun c=>UInt8.ofNat (Int.toNat (IntKind.wrap .u8 c)))
 | d,i,0,hi,hn=>by omega
 | 0,i,n+1,hi,hn=>by
  show qdm k0 (qgO k0 n) n _ t _ _=_;unfold qdm;obtain rfl:i=t.length:=by omega
  rw [decide_eq_false (by omega),yd,List.take_length,Nat.sub_self];simp
 | d+1,i,n+1,hi,hn=>by
  show qdm k0 (qgO k0 n) n _ t _ _=_;unfold qdm;have hlt:i < t.length:=by omega
  have hl2:((t.take i).map (fun c=>UInt8.ofNat (Int.toNat (IntKind.wrap .u8 c)))++List.replicate (t.length - i) (0:UInt8)).length=t.length:=by simp; omega
  have ih:=qoz k0 t hl d (i+1) n (by omega) (by omega);rw [qvR,yo hlt,yc,qgZ,Bool.true_and,yc,Bool.true_and,qvR,hl2,yo hlt,yc,qE (by omega),qoL,
   qvc (fun c=>UInt8.ofNat (Int.toNat (IntKind.wrap .u8 c))) t 0 i hlt 0]
  exact ih
theorem qvv:∀ (t0:List Int),(qld t0=true)→∃ n,qrr n t0=qoi (z18 t0).1 (z18 t0).2:=fun t h=>⟨t.length+1,by
 have hl:=qJ h;unfold qrr z18;rw [show qpy t=true from h,yi,yc];cases z34 t != -1 with
 | true=>rfl
 | false =>
  have:=qoz (qdn (t.length+1)) t hl t.length 0 (t.length+1) (by omega) (by omega);rw [yd,yd,qgZ,yo (Int.le_refl _),yo (by unfold room; omega)];unfold qdn at this ⊢;simpa using this⟩
theorem qdJ {α β:Type} (g:α→β):∀ l:List α,l.flatMap (fun x=>[g x])=l.map g
 | []=>rfl
 | x :: r=>by rw [List.flatMap_cons,qdJ g r]; rfl
theorem qvw:∀ (charset0:Int) (c1:Int),∃ n,quu n charset0 c1=qdT (z37 charset0 c1):=fun cs c=>⟨0,by
 unfold quu z37;cases (cs==(1:Int)) <;> cases (cs==(2:Int)) <;> cases (cs==(3:Int)) <;> cases (cs==(4:Int)) <;> cases (cs==(5:Int)) <;> cases decide ((0:Int)≤c) <;> rfl⟩
theorem qvx:∀ (charset0:Int),∃ n,quy n charset0=qbU (z39 charset0):=fun cs=>⟨0,by
 unfold quy z39
 by_cases h:cs=2
 ·subst h; rfl
 ·rw [beqF h];cases (cs==(1:Int)) <;> cases (cs==(3:Int)) <;> cases (cs==(4:Int)) <;> cases (cs==(5:Int)) <;> rfl⟩
theorem qvy:∀ (charset0:Int) (t1:List Int),(qpD charset0 t1=true)→∃ n,quz n charset0 t1=qoo (z40 charset0 t1):=fun cs t h=>⟨0,by
 unfold quz z40;rw [show qpC cs t=true from h];cases decide (0 < z39 cs) <;> rfl⟩
theorem qvz:∀ (t0:List Int),(qpz t0=true)→∃ n,qrw n t0=qfT (z42 t0).1 (z42 t0).2:=fun t h=>⟨t.length+1,by
 have hl:=qJ (l:=t) h;unfold qrw z42;have:=qgW (t:=t) (dv:=0) (f:=fun c=>[(z59 c).1]) (q:=z53) (b:=1) (k0:=qdv (t.length+1)) (R:=qfT [] 9)
  (L:=fun n out i=>qiQ qfT (qdv (t.length+1)) n out t ((t.length:Nat):Int) i) (fun x=>by simp) (fun n i out hi hb=>by
   show qdu _ _ _ n _ _ _ _=_;unfold qdu;simp (disch:=omega) only [dT,yc,yi,tn,qE,yg,List.length_nil,yC];show (bif !(z53 (t.getD i 0)) then _ else _)=_;cases z53 (t.getD i 0) <;> rfl) (fun n out=>by
   show qdu _ _ _ n _ _ _ _=_;unfold qdu;rw [dF (by omega)];rfl) t.length 0 (t.length+1) [] (by omega) (by omega) (by unfold room; simp; omega)
 refine this.trans ?_;rw [yw,qdJ];cases t.all z53 <;> rfl⟩
theorem qvA:∀ (t0:List Int),(qpA t0=true)→∃ n,qry n t0=qoq (z43 t0).1 (z43 t0).2:=fun t h=>⟨t.length+1,by
 have hl:=qJ (l:=t) h;unfold qry z43;rw [show qpx t=true from h];cases decide (0≤z60 t) with
 | true=>rfl
 | false =>
  have:=qgW (t:=t) (dv:=0) (f:=fun c=>[(z61 c).1]) (q:=fun _=>true) (b:=1) (k0:=qdy (t.length+1)) (R:=none)
   (L:=fun n out i=>qiS (qdy (t.length+1)) n out t ((t.length:Nat):Int) i) (fun x=>by simp) (fun n i out hi hb=>by
    show qdx _ _ n _ _ _ _=_;unfold qdx;simp (disch:=omega) only [dT,yc,yi,tn,qE,yg,List.length_nil,yC]) (fun n out=>by
    show qdx _ _ n _ _ _ _=_;unfold qdx;rw [dF (by omega)];rfl) t.length 0 (t.length+1) [] (by omega) (by omega) (by unfold room; simp; omega)
  simp (disch:=(first | omega | (unfold room; omega))) only [dT,yc,yd,yi];refine this.trans ?_;rw [yw,qdJ,List.all_eq_true.2 (fun _ _=>rfl)];rfl⟩
theorem qoA (c:Int):(z58 [] c).1.length≤4:=by
 unfold z58;rcases qky c with e | e | e | e | e <;> rw [e] <;> simp
theorem qvB:∀ (t0:List Int),(qpB t0=true)→∃ n,qrv n t0=qop (z41 t0).1 (z41 t0).2:=fun t h=>⟨t.length+1,by
 have hl:=qJ (l:=t) h;unfold qrv z41;rw [show qlc t=true from h];cases !(z15 t) with
 | true=>rfl
 | false =>
  have:=qgW (t:=t) (dv:=0) (f:=fun c=>(z58 [] c).1) (q:=fun _=>true) (b:=4) (k0:=qdt (t.length+1)) (R:=none)
   (L:=fun n out i=>qiP (qdt (t.length+1)) n out t ((t.length:Nat):Int) i) qoA (fun n i out hi hb=>by
    show qds _ _ n _ _ _ _=_;unfold qds;have hp:=qoA (t.getD i 0);rw [show qpw ([]:List UInt8) (t.getD (Int.toNat (i:Int)) 0)=true from rfl];simp (disch:=omega) only [dT,yc,yi,tn,qE]) (fun n out=>by
    show qds _ _ n _ _ _ _=_;unfold qds;rw [dF (by omega)];rfl) t.length 0 (t.length+1) [] (by omega) (by omega) (by unfold room; simp; omega)
  simp only [yc,yd,yi];refine this.trans ?_;rw [yw,List.all_eq_true.2 (fun _ _=>rfl)];rfl⟩
theorem qvC:∀ (charset0:Int) (t1:List Int),(qpE charset0 t1=true)→∃ n,quD n charset0 t1=qfl (z23 charset0 t1).1 (z23 charset0 t1).2:=fun cs t h=>⟨0,by
 unfold quD z23;rw [show qpD cs t=true from h,show qpB t=true from h,show qpz t=true from h,show qpA t=true from h,show qld t=true from h];cases (z39 cs==0) <;> cases z40 cs t <;> cases (cs==(5:Int)) <;> cases (cs==(3:Int)) <;> cases (cs==(4:Int)) <;> rfl⟩
set_option linter.unusedSimpArgs false
theorem qvD:∀ (x0:Int),(qpp x0=true)→∃ n,quv n x0=qsj (z38 x0):=fun x h=>⟨0,by
 unfold quv;rw [show qti x=true from h];rfl⟩
theorem qvE:∀ (sets0:Int),(qpq sets0=true)→∃ n,quw n sets0=qon (z22 sets0):=fun s h=>⟨0,by
 have h':=of_decide_eq_true h;unfold quw z22;cases (s==0) with
 | true=>rfl
 | false =>
  have hw:IntKind.wrap .u64 s=s:=by
   exact IntWalk.u64_in s (by omega)
  rw [hw,show qpp s=true from yo (by omega)];rfl⟩
theorem qvF:∀ a b c d e:Bool,(bif e then bits .or .i64 (bif d then bits .or .i64 (bif c then bits .or .i64 (bif b then bits .or .i64 (bif a then bits .or .i64 0 2 else 0) 4 else (bif a then bits .or .i64 0 2 else 0)) 8 else (bif b then bits .or .i64 (bif a then bits .or .i64 0 2 else 0) 4 else (bif a then bits .or .i64 0 2 else 0))) 16 else (bif c then bits .or .i64 (bif b then bits .or .i64 (bif a then bits .or .i64 0 2 else 0) 4 else (bif a then bits .or .i64 0 2 else 0)) 8 else (bif b then bits .or .i64 (bif a then bits .or .i64 0 2 else 0) 4 else (bif a then bits .or .i64 0 2 else 0)))) 32 else
 (bif d then bits .or .i64 (bif c then bits .or .i64 (bif b then bits .or .i64 (bif a then bits .or .i64 0 2 else 0) 4 else (bif a then bits .or .i64 0 2 else 0)) 8 else (bif b then bits .or .i64 (bif a then bits .or .i64 0 2 else 0) 4 else (bif a then bits .or .i64 0 2 else 0))) 16 else (bif c then bits .or .i64 (bif b then bits .or .i64 (bif a then bits .or .i64 0 2 else 0) 4 else (bif a then bits .or .i64 0 2 else 0)) 8 else (bif b then bits .or .i64 (bif a then bits .or .i64 0 2 else 0) 4 else (bif a then bits .or .i64 0 2 else 0)))))=maskB a b c d e:=by decide +kernel
theorem qxc:∀ a b c d e a' b' c' d' e':Bool,bits .and .i64 (maskB a b c d e) (maskB a' b' c' d' e')=maskB (a&&a') (b&&b') (c&&c') (d&&d') (e&&e'):=by decide +kernel
theorem qxd:∀ a b c d e:Bool,z22 (maskB a b c d e)=bif a then 1 else bif b then 2 else bif c then 3 else bif d then 4 else bif e then 5 else 0:=by decide +kernel
theorem qvG:∀ a b c d e:Bool,(maskB a b c d e==0) = !(a||b||c||d||e):=by decide +kernel
theorem qyJ:∀ a b c d e:Bool,0≤maskB a b c d e∧maskB a b c d e < 64:=by decide +kernel
theorem qvH:∀ (c0:Int),∃ n,qrt n c0=qom (z21 c0):=fun c=>⟨6,by
 have w:∀ i:Nat,i < 10→IntKind.wrap .i64 ((i:Int)+1)=((i+1:Nat):Int):=fun i h=>qE (by omega);have step:∀ (k i:Nat) (s:Int),i < 5→qgP (qcf 6) (k+1) c s (i:Int)=qgP (qcf 6) k c (bif z37 ((i+1:Nat):Int) c then bits .or .i64 s (IntKind.wrap .i64 ((1:Int)*2 ^ (min (i+1) (IntKind.bits .i64)))) else s) ((i+1:Nat):Int):=fun k i s hi=>by
  show qdq _ _ k _ _ _=_;unfold qdq;rw [dT (show (i:Int) < 5 by omega),w i (by omega)];cases z37 ((i+1:Nat):Int) c with
  | true =>
   rw [dT (show (0:Int)≤((i+1:Nat):Int) by omega),tn];rfl
  | false=>rfl
 have last:∀ (k:Nat) (s:Int),qgP (qcf 6) (k+1) c s (5:Nat)=qom s:=fun k s=>by
  show qdq _ _ k _ _ _=_;unfold qdq;rw [dF (by omega)];rfl
 unfold qrt z21 maskF;rw [show (0:Int)=((0:Nat):Int) from rfl,step 5 0 _ (by omega),step 4 1 _ (by omega),step 3 2 _ (by omega),step 2 3 _ (by omega),step 1 4 _ (by omega),last 0];simp only [];rw [← qvF (z37 1 c) (z37 2 c) (z37 3 c) (z37 4 c) (z37 5 c)];rfl⟩
def qkz (t:List Int) (a b c d e:Bool):Int:=maskB (a&&t.all (z37 1)) (b&&t.all (z37 2)) (c&&t.all (z37 3)) (d&&t.all (z37 4)) (e&&t.all (z37 5))
theorem qfY (t:List Int) (hl:t.length≤1048576):∀ (d i n:Nat) (a b c x e:Bool),i+d=t.length→d < n →
 z9_l3 (qfi (t.length+1)) n (maskB a b c x e) t ((t.length:Nat):Int) (i:Int)=qfi (t.length+1) (qkz (t.drop i) a b c x e)
 | d,i,0,a,b,c,x,e,hi,hn=>by omega
 | 0,i,n+1,a,b,c,x,e,hi,hn=>by
  obtain rfl:i=t.length:=by omega
  show qfQ _ _ n _ _ _ _=_;unfold qfQ;rw [dF (by omega),yz (yv _)];simp [qkz]
 | d+1,i,n+1,a,b,c,x,e,hi,hn=>by
  have hlt:i < t.length:=by omega
  show qfQ _ _ n _ _ _ _=_;unfold qfQ;simp (disch:=omega) only [dT,yc,yi,tn,qE];unfold z21 maskF;rw [qxc,qfY t hl d (i+1) n _ _ _ _ _ (by omega) (by omega),qat (d:=(0:Int)) hlt];unfold qkz;simp only [List.all_cons,Bool.and_assoc]
theorem qxe:∀ (t0:List Int),(z9_ok t0=true)→∃ n,z9_sh n t0=qux (z9 t0).1 (z9 t0).2:=fun t h=>⟨t.length+1,by
 have hl:=qJ (l:=t) h;unfold z9_sh;have h0:=qfY t hl t.length 0 (t.length+1) true true true true true (by omega) (by omega);rw [show maskB true true true true true=62 from rfl] at h0;refine h0.trans ?_;unfold qkz qfi z9 selF qtj;simp only [Bool.true_and,yw];rw [qvG,qxd,show ∀ z,0≤z∧z < 64→qpq z=true from fun z hz=>yo hz]
 ·cases t.all (z37 1) <;> cases t.all (z37 2) <;> cases t.all (z37 3) <;> cases t.all (z37 4) <;> cases t.all (z37 5) <;> rfl
 ·exact qyJ _ _ _ _ _⟩
end Go.Av
