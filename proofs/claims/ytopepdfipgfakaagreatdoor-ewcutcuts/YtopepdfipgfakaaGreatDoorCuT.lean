import Derived.Test.YtopepdfipgfakaaGreatDoorCuSh
import Derived.Test.YtopepdfipgfakaaGreatDoorEfL
import Derived.Test.YtopepdfipgfakaaGreatDoorAvE
import Derived.Lib.IndexAny
import Derived.Lib.IndexMore
import Derived.Lib.IndexBytes
import Derived.IntWalk
import Derived.KernelRfl
namespace Go.Av
set_option linter.unusedVariables false
theorem qyU {α:Type} [DecidableEq α] {a b:List α} {i:Nat} (ha:i < a.length) (hb:i < b.length) (d:α):decide (a.drop i=b.drop i)=bif a.getD i d != b.getD i d then false else decide (a.drop (i+1)=b.drop (i+1)):=by
 rw [qah (d:=d) ha,qah (d:=d) hb]
 generalize a.getD i d=x
 generalize b.getD i d=y
 by_cases h:x=y
 ·subst h; simp
 ·simp [h]
theorem qyV:∀ (c0:UInt8),∃ n,quV n c0=qf (z214 c0):=fun c=>⟨0,by
 unfold quV z214 qpD orI
 cases decide (c < (32:UInt8)) <;> cases (c==(127:UInt8)) <;> cases (c==(32:UInt8)) <;> cases (c==(9:UInt8)) <;> cases decide ((48:UInt8)≤c) <;> cases decide (c≤(57:UInt8)) <;> cases decide ((65:UInt8)≤c) <;> cases decide (c≤(90:UInt8)) <;> cases decide ((97:UInt8)≤c) <;> cases decide (c≤(122:UInt8)) <;> rfl⟩
theorem qyW:∀ (s0:List UInt8) (c1:UInt8),∃ n,qAS n s0 c1=quW (z229 s0 c1):=fun _ _=>⟨0,rfl⟩
theorem qyX:∀ (s0:List UInt8) (c1:UInt8),∃ n,qAT n s0 c1=quX (z192 s0 c1):=fun _ _=>⟨0,rfl⟩
theorem qyY:∀ (s0:List UInt8) (c1:UInt8),∃ n,qAU n s0 c1=quY (z215 s0 c1):=fun _ _=>⟨0,rfl⟩
theorem qyZ:∀ (c0:UInt8),∃ n,quZ n c0=qU (z180 c0):=fun c=>⟨0,by
 unfold quZ z180 qAB orI
 cases decide (c < (33:UInt8)) <;> cases decide ((126:UInt8) < c) <;> cases z215 [33,42,43,45,47] c <;> cases z215 [43,47] c <;> cases z215 [40,41,60,62,64,44,59,58,92,34,47,91,93,63,61] c <;> cases z215 [42,39,37] c <;> rfl⟩
theorem qza:∀ (c0:UInt8) (kinds1:Int),∃ n,qAV n c0 kinds1=qva (z129 c0 kinds1):=fun _ _=>⟨0,rfl⟩
theorem dT {p:Prop} [Decidable p] (h:p):decide p=true:=decide_eq_true h
theorem dF {p:Prop} [Decidable p] (h:¬ p):decide p=false:=decide_eq_false h
theorem wr {x:Int} (h : -9223372036854775808≤x∧x≤9223372036854775807):IntKind.wrap .i64 x=x:=IntWalk.i64_in x h
theorem tn (i:Nat):Int.toNat (i:Int)=i:=Int.toNat_natCast i
theorem qaO {α:Type} {l:List α} (h:l.length≤1048576):lenOk l=true:=by unfold lenOk; rw [decide_eq_true_eq]; exact h
theorem bneT {a b:Int} (h:a≠b):(a != b)=true:=by simp [bne,h]
theorem bneF {a b:Int} (h:a=b):(a != b)=false:=by simp [h]
theorem qvR (ret:Bool→Option AV) (k0:Option AV) (hk:k0=ret false) (s:List UInt8) (c:UInt8) (hl:s.length≤1048576):∀ (d i n:Nat),i+d=s.length→d < n →
 qdu ret k0 n s c (i:Nat)=ret ((s.drop i).contains c)
 | d,i,0,hi,hn=>by omega
 | 0,i,n+1,hi,hn=>by
  show qcd ret k0 (qdu ret k0 n) n _ _ _=_
  unfold qcd
  rw [dF (by omega),cond_false,List.drop_eq_nil_of_le (by omega),hk]
  rfl
 | d+1,i,n+1,hi,hn=>by
  show qcd ret k0 (qdu ret k0 n) n _ _ _=_
  unfold qcd
  have hlt:i < s.length:=by omega
  have ih:=qvR ret k0 hk s c hl d (i+1) n (by omega) (by omega)
  rw [qah (d:=(0:UInt8)) hlt,List.contains_cons]
  simp (disch:=omega) only [dT,cond_true,Bool.and_true,tn,qr]
  rw [ih,show (s.getD i 0==c)=(c==s.getD i 0) from Bool.beq_comm]
  cases (c==s.getD i 0) <;> rfl
theorem qzb (s:List UInt8) (c:UInt8) (hl:s.length≤1048576):∃ n,qkG n s c=qeg (z179 s c):=⟨s.length+1,by
 unfold qkG
 have:=qvR qeg (qdv (s.length+1)) rfl s c hl s.length 0 (s.length+1) (by omega) (by omega)
 exact this⟩
theorem qzc:∀ (s0:List UInt8) (c1:UInt8),(qBj s0 c1=true)→∃ n,qkG n s0 c1=qeg (z179 s0 c1):=fun s c h=>qzb s c (qn h)
theorem qCV:∀ (c0:UInt8) (kinds1:Int),∃ n,qIt n c0 kinds1=qBe (z82 c0 kinds1):=fun _ _=>⟨0,rfl⟩
theorem qKX {P:UInt8→Prop} (h:∀ i:Fin 256,P (UInt8.ofNat i.val)) (c:UInt8):P c:=by
 have:=h ⟨c.toNat,c.toNat_lt⟩
 simpa using this
theorem and15 (n:Int):bits .and .i64 n 15=n % 16:=by
 have h:(BitVec.ofInt 64 n &&& BitVec.ofInt 64 15).toNat=(n % 16).toNat:=by
  rw [BitVec.toNat_and]
  have h1:(BitVec.ofInt 64 15).toNat=2 ^ 4 - 1:=by decide
  rw [h1,Nat.and_two_pow_sub_one_eq_mod,BitVec.toNat_ofInt]
  omega
 show IntKind.wrap .i64 (((BitVec.ofInt 64 n &&& BitVec.ofInt 64 15).toNat:Nat):Int)=_
 rw [h,IntWalk.i64_in _ (by omega)]
 omega
theorem qzd:∀ (n0:Int),(qcl n0=true)→∃ n,qvt n n0=qvs (z181 n0):=fun n _=>⟨0,by
 unfold qvt z181
 rw [and15]
 have h0:(0:Int)≤n % 16:=by omega
 have h1:n % 16 < (((([48,49,50,51,52,53,54,55,56,57,65,66,67,68,69,70]:List UInt8).length:Nat)):Int):=by simp; omega
 rw [decide_eq_true h0,decide_eq_true h1]
 rfl⟩
theorem qKY (n:Int):Int.tmod (Int.tmod n 16+16) 16=n % 16:=by
 have h:Int.tmod n 16=n % 16∨Int.tmod n 16=n % 16 - 16:=by
  rcases Int.le_total 0 n with h | h
  ·exact .inl (Int.tmod_eq_emod_of_nonneg h)
  ·have h2:Int.tmod n 16 = -((-n) % 16):=by
    have:=Int.neg_tmod (-n) 16
    rw [Int.neg_neg] at this
    rw [this,Int.tmod_eq_emod_of_nonneg (by omega)]
   omega
 have h3:0≤Int.tmod n 16+16:=by omega
 rw [Int.tmod_eq_emod_of_nonneg h3]
 omega
theorem qmK (n:Int) : -16 < Int.tmod n 16∧Int.tmod n 16 < 16:=by
 have h:Int.tmod n 16=n % 16∨Int.tmod n 16=n % 16 - 16∧n % 16≠0:=by
  rcases Int.le_total 0 n with h | h
  ·exact .inl (Int.tmod_eq_emod_of_nonneg h)
  ·have h2:Int.tmod n 16 = -((-n) % 16):=by
    have:=Int.neg_tmod (-n) 16
    rw [Int.neg_neg] at this
    rw [this,Int.tmod_eq_emod_of_nonneg (by omega)]
   omega
 omega
theorem qmL:∀ j:Fin 16,(bif decide (((j.val:Nat):Int) < 10) then UInt8.ofNat (Int.toNat (IntKind.wrap .u8 (IntKind.wrap .i64 ((48:Int)+((j.val:Nat):Int)))))
 else UInt8.ofNat (Int.toNat (IntKind.wrap .u8 (IntKind.wrap .i64 ((IntKind.wrap .i64 ((65:Int)+((j.val:Nat):Int))) - (10:Int))))))=List.getD hexD j.val 0:=by decide +kernel
theorem qze:∀ (n0:Int),(qcm n0=true)→∃ n,qvF n n0=qmD (z184 n0):=fun n _=>⟨0,by
 unfold qvF z184
 have hr:=qmK n
 rw [IntWalk.i64_in (Int.tmod n 16+16) (by omega),qKY]
 have hj:(n % 16).toNat < 16:=by omega
 have:=qmL ⟨(n % 16).toNat,hj⟩
 simp only [Int.toNat_of_nonneg (show 0≤n % 16 by omega)] at this
 rw [← this]
 cases decide (n % 16 < 10) <;> rfl⟩
theorem qCW {P:UInt8→Prop} (h:∀ i:Fin 256,P (UInt8.ofNat i.val)) (c:UInt8):P c:=by
 have:=h ⟨c.toNat,c.toNat_lt⟩
 simpa using this
theorem qvS:∀ i:Fin 256,[z181 (IntKind.wrap .i64 ((UInt8.toNat (UInt8.ofNat (UInt8.toNat (UInt8.ofNat i.val) / 2 ^ (min (Int.toNat (4:Int)) 8))):Nat):Int)),z181 (IntKind.wrap .i64 ((UInt8.toNat (UInt8.ofNat i.val):Nat):Int))]=z130 (UInt8.ofNat i.val):=by decide +kernel
theorem qkI:∀ i:Fin 256,[z184 (IntKind.wrap .i64 (Int.tdiv (IntKind.wrap .i64 ((UInt8.toNat (UInt8.ofNat i.val):Nat):Int)) (16:Int))),z184 (Int.tmod (IntKind.wrap .i64 ((UInt8.toNat (UInt8.ofNat i.val):Nat):Int)) (16:Int))]=z130 (UInt8.ofNat i.val):=by decide +kernel
theorem qqW:∀ i:Fin 256,qcm (IntKind.wrap .i64 (Int.tdiv (IntKind.wrap .i64 ((UInt8.toNat (UInt8.ofNat i.val):Nat):Int)) (16:Int)))=true∧qcm (Int.tmod (IntKind.wrap .i64 ((UInt8.toNat (UInt8.ofNat i.val):Nat):Int)) (16:Int))=true ∧
 qcl (IntKind.wrap .i64 ((UInt8.toNat (UInt8.ofNat (UInt8.toNat (UInt8.ofNat i.val) / 2 ^ (min (Int.toNat (4:Int)) 8))):Nat):Int))=true∧qcl (IntKind.wrap .i64 ((UInt8.toNat (UInt8.ofNat i.val):Nat):Int))=true:=by decide +kernel
theorem boths (c:UInt8):[z181 (IntKind.wrap .i64 ((UInt8.toNat (UInt8.ofNat (UInt8.toNat c / 2 ^ (min (Int.toNat (4:Int)) 8))):Nat):Int)),z181 (IntKind.wrap .i64 ((UInt8.toNat c:Nat):Int))]=z130 c:=qCW (P:=fun c=>[z181 (IntKind.wrap .i64 ((UInt8.toNat (UInt8.ofNat (UInt8.toNat c / 2 ^ (min (Int.toNat (4:Int)) 8))):Nat):Int)),z181 (IntKind.wrap .i64 ((UInt8.toNat c:Nat):Int))]=z130 c) qvS c
theorem qCX (c:UInt8):[z184 (IntKind.wrap .i64 (Int.tdiv (IntKind.wrap .i64 ((UInt8.toNat c:Nat):Int)) (16:Int))),z184 (Int.tmod (IntKind.wrap .i64 ((UInt8.toNat c:Nat):Int)) (16:Int))]=z130 c:=qCW (P:=fun c=>[z184 (IntKind.wrap .i64 (Int.tdiv (IntKind.wrap .i64 ((UInt8.toNat c:Nat):Int)) (16:Int))),z184 (Int.tmod (IntKind.wrap .i64 ((UInt8.toNat c:Nat):Int)) (16:Int))]=z130 c) qkI c
theorem qIu (c:UInt8):qcm (IntKind.wrap .i64 (Int.tdiv (IntKind.wrap .i64 ((UInt8.toNat c:Nat):Int)) (16:Int)))=true∧qcm (Int.tmod (IntKind.wrap .i64 ((UInt8.toNat c:Nat):Int)) (16:Int))=true ∧
 qcl (IntKind.wrap .i64 ((UInt8.toNat (UInt8.ofNat (UInt8.toNat c / 2 ^ (min (Int.toNat (4:Int)) 8))):Nat):Int))=true∧qcl (IntKind.wrap .i64 ((UInt8.toNat c:Nat):Int))=true:=qCW (P:=fun c=>qcm (IntKind.wrap .i64 (Int.tdiv (IntKind.wrap .i64 ((UInt8.toNat c:Nat):Int)) (16:Int)))=true∧qcm (Int.tmod (IntKind.wrap .i64 ((UInt8.toNat c:Nat):Int)) (16:Int))=true ∧
 qcl (IntKind.wrap .i64 ((UInt8.toNat (UInt8.ofNat (UInt8.toNat c / 2 ^ (min (Int.toNat (4:Int)) 8))):Nat):Int))=true∧qcl (IntKind.wrap .i64 ((UInt8.toNat c:Nat):Int))=true) qqW c
theorem qzf:∀ (c0:UInt8),∃ n,qvv n c0=qvu (z130 c0):=fun c=>⟨0,by
 obtain ⟨_,_,h1,h2⟩:=qIu c
 unfold qvv
 rw [h1,h2,boths]
 rfl⟩
theorem qCY:∀ (b0:List UInt8) (sign1:UInt8) (c2:UInt8),(qAv b0 sign1 c2=true)→∃ n,qCG n b0 sign1 c2=qBa (z85 b0 sign1 c2):=fun b sign c h=>⟨0,by
 have hl:=qn h
 unfold qCG z85 qws z38
 rw [show lenOk b=true from h,Bool.and_true,cond_true,decide_eq_true (by unfold room; simp; omega),cond_true,decide_eq_true (by unfold room z130; simp; omega),cond_true,List.append_assoc]
 rfl⟩
theorem qzg:∀ (b0:List UInt8) (sign1:UInt8) (c2:UInt8),(qpp b0 sign1 c2=true)→∃ n,qvH n b0 sign1 c2=qvG (z137 b0 sign1 c2):=fun b sign c h=>⟨0,by
 have hl:=qn h
 obtain ⟨h1,h2,_,_⟩:=qIu c
 unfold qvH z137
 rw [h1,h2,decide_eq_true (by unfold room; simp; omega),Bool.and_true,cond_true,cond_true,decide_eq_true (by unfold room; simp; omega),cond_true,← qCX c]
 rfl⟩
theorem beqT {a b:Int} (h:a=b):(a==b)=true:=by simp [h]
theorem beqF {a b:Int} (h:a≠b):(a==b)=false:=by simp [h]
def okc (c:UInt8):Bool:=(c==13)||(c==10)||(c==9)||(decide (32≤c)&&decide (c≤126))
set_option linter.unusedSimpArgs false
theorem qbd {t:List Int} {p:Int→Bool} {k0:Option AV} {ret:Int→Option AV} {L:Nat→Int→Option AV} (hl:t.length≤1048576)
 (hL:∀ n (i:Nat),i < t.length→L (n+1) (i:Int)=bif p (t.getD i 0) then L n ((i+1:Nat):Int) else ret (i:Int)) (hE:∀ n,L (n+1) (t.length:Nat)=k0) :
 ∀ d i n:Nat,i+d=t.length→d < n→L n (i:Int)=bif qV p (t.drop i) i == -1 then k0 else ret (qV p (t.drop i) i)
 | d,i,0,hi,hn=>by omega
 | 0,i,n+1,hi,hn=>by
  obtain rfl:i=t.length:=by omega
  rw [hE,List.drop_eq_nil_of_le (by omega)]
  rfl
 | d+1,i,n+1,hi,hn=>by
  have hlt:i < t.length:=by omega
  rw [hL n i hlt,qbd hl hL hE d (i+1) n (by omega) (by omega),qah (d:=(0:Int)) hlt]
  rw [show qV p (t.getD i 0 :: t.drop (i+1)) (i:Int)=bif p (t.getD i 0) then qV p (t.drop (i+1)) ((i+1:Nat):Int) else (i:Int) from rfl]
  cases p (t.getD i 0) with
  | true=>rfl
  | false =>
   have:((i:Int) == -1)=false:=by simp only [beq_eq_false_iff_ne,ne_eq]; omega
   simp [this]
theorem qzh:∀ (n0:Int),∃ n,quR n n0=qge (z218 n0):=fun c=>⟨0,by
 unfold quR z218
 cases (c==(2:Int)) <;> cases (c==(3:Int)) <;> cases (c==(4:Int)) <;> rfl⟩
theorem qzi:∃ n,qAN n  = quC z185:=⟨0,rfl⟩
theorem qzj:∃ n,qAP n  = quF z186:=⟨0,rfl⟩
theorem qCZ {α β:Type} (f:α→β) (t:List α) (z:β) (i:Nat) (h:i < t.length) (d:α) :
 ((t.take i).map f++List.replicate (t.length - i) z).set i (f (t.getD i d))=(t.take (i+1)).map f++List.replicate (t.length - (i+1)) z:=by
 rw [List.set_append_right _ _ (by simp; omega)]
 have h1:((t.take i).map f).length=i:=by simp; omega
 rw [h1,Nat.sub_self,show t.length - i=(t.length - (i+1))+1 by omega,List.replicate_succ,List.set_cons_zero,List.take_succ_eq_append_getElem h,List.map_append,List.append_assoc]
 simp [List.getD,h]
theorem qvT (x:UInt8):IntKind.wrap .i32 ((UInt8.toNat x:Nat):Int)=((UInt8.toNat x:Nat):Int):=IntWalk.i32_in _ (by have:=x.toNat_lt; omega)
theorem qDa:∀ (x0:UInt8),∃ n,qCQ n x0=qck (z64 x0):=fun x=>⟨0,by
 unfold qCQ z64
 rw [qvT]
 cases (x==(164:UInt8)) <;> cases (x==(166:UInt8)) <;> cases (x==(168:UInt8)) <;> cases (x==(180:UInt8)) <;> cases (x==(184:UInt8)) <;> cases (x==(188:UInt8)) <;> cases (x==(189:UInt8)) <;> cases (x==(190:UInt8)) <;> rfl⟩
theorem qDb:∀ (x0:UInt8),∃ n,qCR n x0=qoY (z65 x0):=fun x=>⟨0,by
 unfold qCR z65
 rw [qvT]
 have hx:=x.toNat_lt
 by_cases h1:x < 128
 ·rw [dT h1]; rfl
 ·by_cases h2:159 < x
  ·rw [dF h1,dT h2]; rfl
  ·rw [dF h1,dF h2]
   have h3:128≤x.toNat:=by have:=UInt8.not_lt.1 h1; exact UInt8.le_iff_toNat_le.1 this
   have h4:x.toNat≤159:=by have:=UInt8.not_lt.1 h2; exact UInt8.le_iff_toNat_le.1 this
   have h5:(x - 128).toNat=x.toNat - 128:=UInt8.toNat_sub_of_le _ _ (UInt8.not_lt.1 h1)
   rw [h5]
   simp (disch:=(first | omega | (simp; omega))) only [dT,Bool.and_true,cond_true,cond_false,Bool.or_false,tn]
   rfl⟩
theorem qmM {sign:UInt8→Int} {put:Int→UInt8×Bool} {c:Int} {L:Nat→Int→Option AV} {ret:UInt8→Bool→Option AV}
 (hL:∀ n i:Nat,i < 256→L (n+1) (i:Int)=bif sign (UInt8.ofNat i)==c then (bif c != 65533 then ret (UInt8.ofNat i) true else L n ((i+1:Nat):Int)) else L n ((i+1:Nat):Int)) (hE:∀ n,L (n+1) ((256:Nat):Int)=ret 0 false)
 (hA:∀ i:Nat,i < 256→sign (UInt8.ofNat i)=c→c≠65533→put c=(UInt8.ofNat i,true)) (hB:(put c).2=true→sign (put c).1=c∧c≠65533) (hC:(put c).2=false→(put c).1=0) :
 ∀ d i n:Nat,i+d=256→d < n→(∀ j:Nat,j < i→¬ (sign (UInt8.ofNat j)=c∧c≠65533))→L n (i:Int)=ret (put c).1 (put c).2
 | d,i,0,hi,hn,_=>by omega
 | 0,i,n+1,hi,hn,hno=>by
  obtain rfl:i=256:=by omega
  rw [hE]
  cases h:(put c).2 with
  | true =>
   have:=hB h
   exact absurd (by simpa using this) (hno (put c).1.toNat (put c).1.toNat_lt)
  | false=>rw [hC h]
 | d+1,i,n+1,hi,hn,hno=>by
  have ih:¬ (sign (UInt8.ofNat i)=c∧c≠65533)→L n ((i+1:Nat):Int)=ret (put c).1 (put c).2:=fun h=>qmM hL hE hA hB hC d (i+1) n (by omega) (by omega) fun j hj=>by
   by_cases e:j=i
   ·subst e; exact h
   ·exact hno j (by omega)
  rw [hL n i (by omega)]
  by_cases h1:sign (UInt8.ofNat i)=c
  ·by_cases h2:c=65533
   ·rw [beqT h1,bneF h2,cond_true,cond_false,ih (fun h=>h.2 h2)]
   ·rw [beqT h1,bneT h2,cond_true,cond_true,hA i (by omega) h1 h2]
  ·rw [beqF h1,cond_false,ih (fun h=>h1 h.1)]
theorem qep {α β:Type} {t:List α} {dv:α} {f:α→List β} {q:α→Bool} {k0:List β→Option AV} {R:Option AV} {L:Nat→List β→Int→Option AV} {b:Nat} (hf:∀ x,(f x).length≤b)
 (hL:∀ (n i:Nat) (out:List β),i < t.length→out.length+b≤room→L (n+1) out (i:Int)=bif q (t.getD i dv) then L n (out++f (t.getD i dv)) ((i+1:Nat):Int) else R) (hE:∀ n out,L (n+1) out ((t.length:Nat):Int)=k0 out) :
 ∀ (d i n:Nat) (out:List β),i+d=t.length→d < n→out.length+b*d≤room→L n out (i:Int)=bif (t.drop i).all q then k0 (out++(t.drop i).flatMap f) else R
 | d,i,0,out,hi,hn,_=>by omega
 | 0,i,n+1,out,hi,hn,_=>by
  obtain rfl:i=t.length:=by omega
  rw [hE,List.drop_eq_nil_of_le (by omega)]
  simp
 | d+1,i,n+1,out,hi,hn,hb=>by
  have hlt:i < t.length:=by omega
  have hx:=hf (t.getD i dv)
  have hb':b*(d+1)=b*d+b:=by rw [Nat.mul_succ]
  have h0:0≤b*d:=Nat.zero_le _
  rw [hL n i out hlt (by omega),qep (α:=α) (β:=β) hf hL hE d (i+1) n _ (by omega) (by omega) (by rw [List.length_append]; omega),qah (d:=dv) hlt]
  simp only [List.all_cons,List.flatMap_cons,List.append_assoc]
  cases q (t.getD i dv) <;> rfl
theorem qzk:∀ (charset0:Int),∃ n,quy n charset0=qcw (z133 charset0):=fun cs=>⟨0,by
 unfold quy z133
 cases (cs==(1:Int)) <;> cases (cs==(2:Int)) <;> cases (cs==(3:Int)) <;> cases (cs==(4:Int)) <;> cases (cs==(5:Int)) <;> rfl⟩
theorem qDc:∀ (charset0:Int),∃ n,qCM n charset0=qgs (z92 charset0):=fun cs=>⟨0,by
 unfold qCM z92 z133
 cases (cs==(1:Int)) <;> cases (cs==(2:Int)) <;> cases (cs==(3:Int)) <;> cases (cs==(4:Int)) <;> cases (cs==(5:Int)) <;> rfl⟩
theorem qDd:∀ (charset0:Int),∃ n,qCx n charset0=quz (z89 charset0):=fun cs=>⟨0,by
 unfold qCx z89 z133
 cases (cs==(1:Int)) <;> cases (cs==(2:Int)) <;> cases (cs==(3:Int)) <;> cases (cs==(4:Int)) <;> cases (cs==(5:Int)) <;> rfl⟩
theorem qDe:∀ (charset0:Int),∃ n,qCN n charset0=qvB (z51 charset0):=fun cs=>⟨0,by
 unfold qCN z51 z92 z89 z133
 cases (cs==(1:Int)) <;> cases (cs==(2:Int)) <;> cases (cs==(3:Int)) <;> cases (cs==(4:Int)) <;> cases (cs==(5:Int)) <;> rfl⟩
theorem qDf:∀ (n0:Int),∃ n,qCv n n0=qux (z44 n0):=fun cs=>⟨0,by
 unfold qCv z44
 cases decide ((1:Int)≤cs) <;> rfl⟩
theorem qDg:∀ (n0:Int),∃ n,qCw n n0=qoC (z45 n0):=fun cs=>⟨0,by
 unfold qCw z45
 cases (cs==(1:Int)) <;> cases (cs==(2:Int)) <;> rfl⟩
theorem qjg (cs:Int):(z89 cs).length≤12:=by
 unfold z89 z133
 cases (cs==(1:Int)) <;> cases (cs==(2:Int)) <;> cases (cs==(3:Int)) <;> cases (cs==(4:Int)) <;> cases (cs==(5:Int)) <;> decide
theorem qvU (n:Int):(z45 n).length≤1:=by
 unfold z45
 cases (n==(1:Int)) <;> cases (n==(2:Int)) <;> decide
theorem qDh:∀ (charset0:Int) (code1:Int),∃ n,qCy n charset0 code1=qAL (z48 charset0 code1):=fun cs n=>⟨0,by
 unfold qCy z48
 have h1:=qjg cs
 have h2:=qvU n
 simp (disch:=(simp; omega)) only [dT,cond_true]⟩
theorem qDi:∀ (charset0:Int),∃ n,qCz n charset0=qkA (z17 charset0):=fun cs=>⟨0,by
 unfold qCz z17 z48
 have h1:=qjg cs
 cases z44 cs with
 | false=>rfl
 | true =>
  show qkA _=qkA _
  congr 1
  rw [show z45 2=[81] from rfl]
  simp only [List.length_append,List.length_cons,List.length_nil]
  have e:∀ k:Nat,k≤100→IntKind.wrap .i64 (IntKind.wrap .i64 ((k:Int)+1)+1)=((k+2:Nat):Int):=fun k hk=>by
   rw [IntWalk.i64_in ((k:Int)+1) (by omega),IntWalk.i64_in _ (by omega)]; omega
  rw [e _ (by omega)]
  simp only [Bool.not_true,cond_false]
  omega⟩
theorem qDj:∀ (charset0:Int),∃ n,qCO n charset0=qoS (z18 charset0):=fun cs=>⟨0,by
 unfold qCO z18 z17 z44
 have h1:=qjg cs
 have e:IntKind.wrap .i64 (7+(((z51 cs).length:Nat):Int))=(((z89 cs).length+7:Nat):Int):=by
  rw [show z51 cs=z89 cs from rfl,IntWalk.i64_in _ (by omega)]; omega
 rw [e,show decide (cs < 1) = !(decide (1≤cs)) by rw [← decide_not]; congr 1; simp,show decide (5 < cs) = !(decide (cs≤5)) by rw [← decide_not]; congr 1; simp]
 cases decide ((1:Int)≤cs) <;> cases decide (cs≤5) <;> rfl⟩
theorem qDk:∀ (c0:UInt8),∃ n,qCA n c0=qoN (z84 c0):=fun c=>⟨0,by
 unfold qCA z84
 cases (c==(32:UInt8)) <;> cases z129 c 128 <;> rfl⟩
theorem qqX (c:UInt8):(z84 c).toNat≤3∧z84 c=((z84 c).toNat:Int):=by
 unfold z84
 cases (c==(32:UInt8)) <;> cases z129 c 128 <;> decide
theorem qpc (k0:Int→Option AV) (s:List UInt8) (hl:s.length≤4194304):∀ (d i n m:Nat),i+d=s.length→d < n→m+3*d≤100000000 →
 qmt k0 n (m:Nat) s ((s.length:Nat):Int) (i:Nat)=k0 ((m+qLen (s.drop i):Nat):Int)
 | d,i,0,m,hi,hn,_=>by omega
 | 0,i,n+1,m,hi,hn,_=>by
  show qdY _ _ n _ _ _ _=_
  unfold qdY
  rw [dF (by omega),cond_false,List.drop_eq_nil_of_le (by omega)]
  rfl
 | d+1,i,n+1,m,hi,hn,hm=>by
  show qdY _ _ n _ _ _ _=_
  unfold qdY
  have hlt:i < s.length:=by omega
  have h1:=qqX (s.getD i 0)
  rw [qah (d:=(0:UInt8)) hlt]
  simp (disch:=omega) only [dT,cond_true,Bool.and_true,tn,qr]
  rw [h1.2,show IntKind.wrap .i64 ((m:Int)+(((z84 (s.getD i 0)).toNat:Nat):Int))=((m+(z84 (s.getD i 0)).toNat:Nat):Int) from by rw [IntWalk.i64_in _ (by omega)]; omega,
   qpc k0 s hl d (i+1) n _ (by omega) (by omega) (by omega)]
  congr 1
  unfold qLen
  simp only [List.map_cons,List.sum_cons]
  omega
theorem qDl:∀ (s0:List UInt8),(qgT s0=true)→∃ n,qyI n s0=qAW (z83 s0):=fun s h=>⟨s.length+1,by
 unfold qgT at h
 have hl:s.length≤4194304:=by simpa using h
 unfold qyI
 refine (qpc (qgm (s.length+1)) s hl s.length 0 (s.length+1) 0 (by omega) (by omega) (by omega)).trans ?_
 rw [List.drop_zero,Nat.zero_add]
 rfl⟩
theorem qDm:∀ (n0:Int),∃ n,qCB n n0=qvb (z87 n0):=fun n=>⟨0,by
 unfold qCB z87
 cases decide (n < 1) <;> rfl⟩
theorem qDn:∀ (c0:UInt8),∃ n,qCP n c0=qoV (z91 c0):=fun c=>⟨0,by
 unfold qCP z91
 rw [show qpp ([]:List UInt8) 61 c=true from rfl]
 cases (c==(32:UInt8)) <;> cases z82 c 128 <;> rfl⟩
theorem qdB (c:UInt8):(z91 c).length=(z84 c).toNat:=by
 unfold z91 z84 z137 z82
 cases (c==(32:UInt8)) <;> cases z129 c 128 <;> rfl
theorem qDo:∀ (s0:List UInt8),(qrc s0=true)→∃ n,qyP n s0=qBf (z50 s0):=fun s h=>⟨s.length+1,by
 unfold qrc at h
 have hl:s.length≤4194304:=by simpa using h
 unfold qyP z50
 have:=qep (t:=s) (dv:=0) (f:=z91) (q:=fun _=>true) (b:=3) (k0:=qei (s.length+1)) (R:=none)
  (L:=fun n out i=>qmE (qei (s.length+1)) n s out i) (fun x=>by rw [qdB]; exact (qqX x).1) (fun n i out hi hb=>by
   show qeh _ _ n _ _ _=_
   unfold qeh
   have hp:(z91 (s.getD i 0)).length≤3:=by rw [qdB]; exact (qqX _).1
   simp (disch:=omega) only [dT,cond_true,Bool.and_true,tn,qr]) (fun n out=>by
   show qeh _ _ n _ _ _=_
   unfold qeh
   rw [dF (by omega)]
   rfl) s.length 0 (s.length+1) [] (by omega) (by omega) (by unfold room; simp; omega)
 refine this.trans ?_
 rw [List.drop_zero,List.all_eq_true.2 (fun _ _=>rfl)]
 rfl⟩
theorem qzl:∀ (n0:Int),∃ n,qvD n n0=qcC (z135 n0):=fun n=>⟨0,by
 unfold qvD z135
 generalize Int.tmod (IntKind.wrap .i64 (Int.tmod n 64+64)) 64=k
 show _=qcC (bif decide (k < 26) then _ else _)
 cases decide (k < 26) <;> cases decide (k < 52) <;> cases decide (k < 62) <;> cases (k==62) <;> rfl⟩
theorem qhk (k0:Int→Option AV) (l:List Int) (hl:l.length≤1048576):∀ (d i n:Nat) (m:Int),i+d=l.length→d < n →
 qgu k0 n l m (i:Nat)=k0 ((l.drop i).foldl (fun n b=>IntKind.wrap .i64 (IntKind.wrap .i64 (2*n)+b)) m)
 | d,i,0,m,hi,hn=>by omega
 | 0,i,n+1,m,hi,hn=>by
  show qcc _ _ n _ _ _=_
  unfold qcc
  rw [dF (by omega),cond_false,List.drop_eq_nil_of_le (by omega)]
  rfl
 | d+1,i,n+1,m,hi,hn=>by
  show qcc _ _ n _ _ _=_
  unfold qcc
  have hlt:i < l.length:=by omega
  rw [qah (d:=(0:Int)) hlt]
  simp (disch:=omega) only [dT,cond_true,Bool.and_true,tn,qr]
  rw [qhk k0 l hl d (i+1) n _ (by omega) (by omega)]
  rfl
theorem qzm:∀ (l0:List Int),(qhp l0=true)→∃ n,qoU n l0=qvE (z136 l0):=fun l h=>⟨l.length+1,by
 unfold qhp at h
 have hl:l.length≤1048576:=by simpa using h
 unfold qoU z136
 refine (qhk (qdt (l.length+1)) l hl l.length 0 (l.length+1) 0 (by omega) (by omega)).trans ?_
 rw [List.drop_zero]
 rfl⟩
theorem qvV (k2:List UInt8→List Int→Int→Option AV) (s:List UInt8) (i:Nat) (hi:i < s.length) (n:Nat) (hn:8 < n) (out:List Int) (hb:out.length+8≤room) :
 qdq k2 n s out (i:Nat) 7=k2 s (out++qbC (s.getD i 0)) (i:Nat):=by
 obtain ⟨m,rfl⟩:∃ m,n=m+9:=⟨n - 9,by omega⟩
 have step:∀ (n k:Nat) (out:List Int),k≤7→out.length+1≤room→qdq k2 (n+1) s out (i:Nat) ((k:Nat):Int)=qdq k2 n s (out++[bit8 (s.getD i 0) k]) (i:Nat) ((k:Int) - 1):=fun n k out hk hr=>by
  show qcb _ _ n _ _ _ _=_
  unfold qcb bit8
  simp (disch:=(first | omega | (simp; omega))) only [dT,cond_true,Bool.and_true,tn]
  rw [IntWalk.i64_in ((k:Int) - 1) (by omega)]
 rw [show (7:Int)=((7:Nat):Int) from rfl,step _ 7 _ (by omega) (by omega),show (((7:Nat):Int) - 1)=((6:Nat):Int) from rfl,
  step _ 6 _ (by omega) (by simp; omega),show (((6:Nat):Int) - 1)=((5:Nat):Int) from rfl,step _ 5 _ (by omega) (by simp; omega),show (((5:Nat):Int) - 1)=((4:Nat):Int) from rfl,
  step _ 4 _ (by omega) (by simp; omega),show (((4:Nat):Int) - 1)=((3:Nat):Int) from rfl,step _ 3 _ (by omega) (by simp; omega),show (((3:Nat):Int) - 1)=((2:Nat):Int) from rfl,
  step _ 2 _ (by omega) (by simp; omega),show (((2:Nat):Int) - 1)=((1:Nat):Int) from rfl,step _ 1 _ (by omega) (by simp; omega),show (((1:Nat):Int) - 1)=((0:Nat):Int) from rfl,
  step _ 0 _ (by omega) (by simp; omega)]
 show qcb _ _ m _ _ _ _=_
 unfold qcb
 rw [show decide ((0:Int)≤((0:Nat):Int) - 1)=false from rfl,cond_false]
 simp only [List.append_assoc]
 rfl
theorem qpd (k0:List Int→Option AV) (s:List UInt8) (hl:s.length≤4194304):∀ (d i n:Nat) (out:List Int),i+d=s.length→d+9 < n→out.length+8*d≤room →
 qgt k0 n s out (i:Nat)=k0 (out++(s.drop i).flatMap qbC)
 | d,i,0,out,hi,hn,_=>by omega
 | 0,i,n+1,out,hi,hn,_=>by
  show qbb _ _ n _ _ _=_
  unfold qbb
  rw [dF (by omega),cond_false,List.drop_eq_nil_of_le (by omega)]
  simp
 | d+1,i,n+1,out,hi,hn,hb=>by
  show qbb _ _ n _ _ _=_
  unfold qbb
  have hlt:i < s.length:=by omega
  rw [dT (by omega),cond_true,qvV _ s i hlt n (by omega) out (by omega)]
  unfold qdr
  rw [qr (by omega),qpd k0 s hl d (i+1) n _ (by omega) (by omega) (by rw [List.length_append]; simp [qbC]; omega),qah (d:=(0:UInt8)) hlt,List.flatMap_cons,List.append_assoc]
theorem qzn:∀ (s0:List UInt8),(qkR s0=true)→∃ n,qoT n s0=qvC (z134 s0):=fun s h=>⟨s.length+10,by
 unfold qkR at h
 have hl:s.length≤4194304:=by simpa using h
 unfold qoT z134
 refine (qpd (qds (s.length+10)) s hl s.length 0 (s.length+10) [] (by omega) (by omega) (by unfold room; simp; omega)).trans ?_
 rw [List.drop_zero]
 rfl⟩
theorem qmN {α:Type} {m:Nat} (hm:0 < m) (hm2:m≤100) {x:α} {k0:List α→Option AV} {L:Nat→List α→Option AV}
 (hL:∀ (n:Nat) (l:List α),l.length+1≤room→L (n+1) l=bif Int.tmod ((l.length:Nat):Int) (m:Int) != 0 then L n (l++[x]) else k0 l) :
 ∀ (d n:Nat) (l:List α),qL l.length m=d→d < n→l.length+d+1≤room→L n l=k0 (l++List.replicate d x)
 | d,0,l,_,hn,_=>by omega
 | d,n+1,l,hd,hn,hr=>by
  have hlt:l.length % m < m:=Nat.mod_lt _ hm
  have hdm:d < m:=by rw [← hd]; exact Nat.mod_lt _ hm
  rw [hL n l (by omega),show Int.tmod ((l.length:Nat):Int) (m:Int)=((l.length % m:Nat):Int) from rfl]
  unfold qL at hd
  by_cases h0:l.length % m=0
  ·rw [h0,Nat.sub_zero,Nat.mod_self] at hd
   subst hd
   rw [h0]
   simp
  ·rw [Nat.mod_eq_of_lt (by omega)] at hd
   have h1:(((l.length % m:Nat):Int) != 0)=true:=bneT (by omega)
   rw [h1,cond_true]
   obtain ⟨e,rfl⟩:∃ e,d=e+1:=⟨d - 1,by omega⟩
   have h2:qL (l++[x]).length m=e:=by
    unfold qL
    rw [List.length_append,List.length_singleton,Nat.add_mod]
    by_cases hm1:m=1
    ·subst hm1; omega
    ·rw [Nat.mod_eq_of_lt (show 1 < m by omega)]
     by_cases h3:l.length % m+1=m
     ·rw [h3,Nat.mod_self,Nat.sub_zero,Nat.mod_self]; omega
     ·rw [Nat.mod_eq_of_lt (show l.length % m+1 < m by omega),Nat.mod_eq_of_lt (by omega)]; omega
   rw [qmN hm hm2 hL e n (l++[x]) h2 (by omega) (by rw [List.length_append,List.length_singleton]; omega),List.append_assoc]
   rfl
theorem qvW {m n:Nat} (hm:0 < m):(n+qL n m) % m=0∧qL n m < m:=by
 unfold qL
 have h:=Nat.mod_lt n hm
 refine ⟨?_,Nat.mod_lt _ hm⟩
 by_cases h0:n % m=0
 ·rw [h0,Nat.sub_zero,Nat.mod_self,Nat.add_zero,h0]
 ·rw [Nat.mod_eq_of_lt (show m - n % m < m by omega),Nat.add_mod,Nat.mod_eq_of_lt (show m - n % m < m by omega),show n % m+(m - n % m)=m by omega,Nat.mod_self]
theorem qmO:∀ s:List UInt8,(z134 s).length=8*s.length
 | []=>rfl
 | c :: r=>by
  have h:=qmO r
  unfold z134 at h ⊢
  rw [List.flatMap_cons,List.length_append,h]
  simp only [qbC,List.length_cons,List.length_nil]
  omega
theorem qpe:∀ (n:Nat) (l:List Int),(sixes n l).length=n
 | 0,_=>rfl
 | n+1,l=>by
  unfold sixes
  rw [List.length_cons,qpe n]
theorem qpf (k2:List UInt8→Option AV) (l:List Int) (k:Nat) (hk:l.length=6*k) (hl:l.length≤100000000):∀ (d i n:Nat) (out:List UInt8),i+d=k→d < n→out.length+d≤room →
 qmB k2 n l out ((6*i:Nat):Int)=k2 (out++sixes d (l.drop (6*i)))
 | d,i,0,out,hi,hn,_=>by omega
 | 0,i,n+1,out,hi,hn,_=>by
  show qee _ _ n _ _ _=_
  unfold qee
  rw [dF (by omega),cond_false]
  unfold sixes
  rw [List.append_nil]
 | d+1,i,n+1,out,hi,hn,hb=>by
  show qee _ _ n _ _ _=_
  unfold qee
  have e6:IntKind.wrap .i64 (((6*i:Nat):Int)+6)=((6*(i+1):Nat):Int):=by rw [IntWalk.i64_in _ (by omega)]; omega
  rw [e6]
  have ed:List.drop (6*i) (List.take (6*(i+1)) l)=(l.drop (6*i)).take 6:=by
   rw [List.drop_take,show 6*(i+1) - 6*i=6 by omega]
  simp (disch:=(first | omega | (simp; omega))) only [dT,cond_true,Bool.and_true,tn]
  rw [ed,show qhp ((l.drop (6*i)).take 6)=true from by unfold qhp; rw [dT]; rw [List.length_take]; omega,cond_true,
   qpf k2 l k hk hl d (i+1) n _ (by omega) (by omega) (by simp; omega),List.append_assoc]
  show _=k2 (out++(z135 (z136 ((l.drop (6*i)).take 6)) :: sixes d ((l.drop (6*i)).drop 6)))
  rw [List.drop_drop]
  rfl
theorem qDp:∀ (s0:List UInt8),(qwp s0=true)→∃ n,qyN n s0=qBc (z90 s0):=fun s h=>⟨(padTo 6 0 (z134 s)).length / 6+20,by
 have h':=h
 unfold qwp at h
 have hl:s.length≤4194304:=by simpa using h
 have hb:=qmO s
 have hp:=qvW (m:=6) (n:=(z134 s).length) (by omega)
 unfold qyN z90
 rw [show qkR s=true from h',Bool.true_and,cond_true]
 generalize hN:(padTo 6 0 (z134 s)).length / 6+20=N
 have hpl:(padTo 6 0 (z134 s)).length=(z134 s).length+qL (z134 s).length 6:=by unfold padTo; simp
 refine (qmN (m:=6) (x:=(0:Int)) (k0:=qbc N) (L:=fun n l=>qmA (qbc N) n l) (by omega) (by omega) (fun n l hr=>?_) _ N (z134 s) rfl (by omega) (by unfold room; omega)).trans ?_
 ·show qiZ _ _ n _=_
  unfold qiZ
  rw [dT (show l.length+([(0:Int)]:List Int).length≤room by simp; omega)]
  rfl
 ·show qbc N (padTo 6 0 (z134 s))=_
  unfold qbc
  refine (qpf (qgv N) (padTo 6 0 (z134 s)) ((padTo 6 0 (z134 s)).length / 6) (by omega) (by omega) ((padTo 6 0 (z134 s)).length / 6) 0 N [] (by omega) (by omega) (by unfold room; simp; omega)).trans ?_
  rfl⟩
theorem qvX (s:List UInt8):(z90 s).length=(8*s.length+qL (8*s.length) 6) / 6:=by
 unfold z90
 rw [qpe]
 unfold padTo
 rw [List.length_append,List.length_replicate,qmO]
theorem qDq:∀ (s0:List UInt8),(qrd s0=true)→∃ n,qyO n s0=qBd (z49 s0):=fun s h=>⟨20,by
 have h':=h
 unfold qrd at h
 have hl:s.length≤4194304:=by simpa using h
 have hb:=qvX s
 have hp:=qvW (m:=6) (n:=8*s.length) (by omega)
 have hq:=qvW (m:=4) (n:=(z90 s).length) (by omega)
 unfold qyO z49
 rw [show qwp s=true from h',Bool.true_and,cond_true]
 refine (qmN (m:=4) (x:=(61:UInt8)) (k0:=qef 20) (L:=fun n l=>qmC (qef 20) n l) (by omega) (by omega) (fun n l hr=>?_) _ 20 (z90 s) rfl (by omega) (by unfold room; omega)).trans ?_
 ·show qja _ _ n _=_
  unfold qja
  rw [dT (show l.length+([(61:UInt8)]:List UInt8).length≤room by simp; omega)]
  rfl
 ·rfl⟩
theorem and63 (n:Int):bits .and .i64 n 63=n % 64:=by
 have h:(BitVec.ofInt 64 n &&& BitVec.ofInt 64 63).toNat=(n % 64).toNat:=by
  rw [BitVec.toNat_and]
  have h1:(BitVec.ofInt 64 63).toNat=2 ^ 6 - 1:=by decide
  rw [h1,Nat.and_two_pow_sub_one_eq_mod,BitVec.toNat_ofInt]
  omega
 show IntKind.wrap .i64 (((BitVec.ofInt 64 n &&& BitVec.ofInt 64 63).toNat:Nat):Int)=_
 rw [h,IntWalk.i64_in _ (by omega)]
 omega
theorem qzo:∀ (n0:Int),∃ n,qvx n n0=qvw (z132 n0):=fun n=>⟨0,by
 unfold qvx z132
 rw [and63]
 have h0:(0:Int)≤n % 64:=by omega
 have h1:n % 64 < (((b64D.length:Nat)):Int):=by show n % 64 < ((64:Nat):Int); omega
 rw [decide_eq_true h0]
 show (bif true&&decide (n % 64 < (((b64D.length:Nat)):Int)) then _ else _)=_
 rw [decide_eq_true h1]
 rfl⟩
theorem qKZ (a b k:Nat) (hb:b < 2 ^ k) (h:a*2 ^ k+b < 9223372036854775808):bits .or .i64 ((a*2 ^ k:Nat):Int) (b:Int)=((a*2 ^ k+b:Nat):Int):=by
 have h1:(BitVec.ofInt 64 ((a*2 ^ k:Nat):Int)).toNat=a*2 ^ k:=by rw [BitVec.toNat_ofInt]; omega
 have h2:(BitVec.ofInt 64 ((b:Nat):Int)).toNat=b:=by rw [BitVec.toNat_ofInt]; omega
 have h3:(BitVec.ofInt 64 ((a*2 ^ k:Nat):Int) ||| BitVec.ofInt 64 (b:Int)).toNat=a*2 ^ k+b:=by
  rw [BitVec.toNat_or,h1,h2]
  have:=Nat.shiftLeft_add_eq_or_of_lt hb a
  rw [Nat.shiftLeft_eq] at this
  exact this.symm
 show IntKind.wrap .i64 (((BitVec.ofInt 64 ((a*2 ^ k:Nat):Int) ||| BitVec.ofInt 64 (b:Int)).toNat:Nat):Int)=_
 rw [h3,IntWalk.i64_in _ (by omega)]
theorem qvY (n k:Nat) (hn:n < 9223372036854775808) (hk:2 ^ k≤4611686018427387904):bits .and .i64 (n:Int) ((2 ^ k - 1:Nat):Int)=((n % 2 ^ k:Nat):Int):=by
 have hpos:0 < 2 ^ k:=Nat.pow_pos (by decide)
 have h1:(BitVec.ofInt 64 (n:Int)).toNat=n:=by rw [BitVec.toNat_ofInt]; omega
 have h2:(BitVec.ofInt 64 ((2 ^ k - 1:Nat):Int)).toNat=2 ^ k - 1:=by rw [BitVec.toNat_ofInt]; omega
 have h3:(BitVec.ofInt 64 (n:Int) &&& BitVec.ofInt 64 ((2 ^ k - 1:Nat):Int)).toNat=n % 2 ^ k:=by
  rw [BitVec.toNat_and,h1,h2,Nat.and_two_pow_sub_one_eq_mod]
 have h4:n % 2 ^ k < 2 ^ k:=Nat.mod_lt _ hpos
 show IntKind.wrap .i64 (((BitVec.ofInt 64 (n:Int) &&& BitVec.ofInt 64 ((2 ^ k - 1:Nat):Int)).toNat:Nat):Int)=_
 rw [h3,IntWalk.i64_in _ (by omega)]
theorem fdivN (n k:Nat):Int.fdiv (n:Int) ((k:Nat):Int)=((n / k:Nat):Int):=by
 rw [Int.fdiv_eq_ediv_of_nonneg _ (Int.natCast_nonneg k),Int.natCast_ediv]
theorem held8 (h x:Nat) (hh:h < 16) (hx:x < 256):bits .or .i64 (IntKind.wrap .i64 ((h:Int)*2 ^ (min (Int.toNat (8:Int)) (IntKind.bits .i64)))) (IntKind.wrap .i64 (x:Int))=((h*256+x:Nat):Int):=by
 have e:IntKind.wrap .i64 ((h:Int)*2 ^ (min (Int.toNat (8:Int)) (IntKind.bits .i64)))=((h*2 ^ 8:Nat):Int):=by
  show IntKind.wrap .i64 ((h:Int)*256)=_
  rw [IntWalk.i64_in _ (by omega)]; omega
 rw [e,IntWalk.i64_in _ (by omega),qKZ h x 8 (by omega) (by omega)]
theorem qIv (k2:List UInt8→Int→Int→List UInt8→Int→Int→Option AV) (n:Nat) (out:List UInt8) (h:Nat) (s8:List UInt8) (s9 s10:Int) (ho:out.length+1≤room) :
 qec k2 (n+3) out (h:Int) 8 s8 s9 s10=k2 (out++[z132 ((h / 4:Nat):Int)]) (h:Int) 2 s8 s9 s10:=by
 have e:qec k2 (n+3) out (h:Int) 8 s8 s9 s10=bif decide (out.length+1≤room) then k2 (out++[z132 (Int.fdiv (h:Int) ((4:Nat):Int))]) (h:Int) 2 s8 s9 s10 else none:=rfl
 rw [e,dT ho,cond_true,fdivN]
theorem qIw (k2:List UInt8→Int→Int→List UInt8→Int→Int→Option AV) (n:Nat) (out:List UInt8) (h:Nat) (s8:List UInt8) (s9 s10:Int) (ho:out.length+1≤room) :
 qec k2 (n+3) out (h:Int) 10 s8 s9 s10=k2 (out++[z132 ((h / 16:Nat):Int)]) (h:Int) 4 s8 s9 s10:=by
 have e:qec k2 (n+3) out (h:Int) 10 s8 s9 s10=bif decide (out.length+1≤room) then k2 (out++[z132 (Int.fdiv (h:Int) ((16:Nat):Int))]) (h:Int) 4 s8 s9 s10 else none:=rfl
 rw [e,dT ho,cond_true,fdivN]
theorem qIx (k2:List UInt8→Int→Int→List UInt8→Int→Int→Option AV) (n:Nat) (out:List UInt8) (h:Nat) (s8:List UInt8) (s9 s10:Int) (ho:out.length+2≤room) :
 qec k2 (n+3) out (h:Int) 12 s8 s9 s10=k2 (out++[z132 ((h / 64:Nat):Int),z132 (h:Int)]) (h:Int) 0 s8 s9 s10:=by
 have e:qec k2 (n+3) out (h:Int) 12 s8 s9 s10=bif decide (out.length+1≤room) then (bif decide ((out++[z132 (Int.fdiv (h:Int) ((64:Nat):Int))]).length+1≤room) then k2 ((out++[z132 (Int.fdiv (h:Int) ((64:Nat):Int))])++[z132 (Int.fdiv (h:Int) ((1:Nat):Int))]) (h:Int) 0 s8 s9 s10 else none) else none:=rfl
 rw [e,dT (show out.length+1≤room by omega),cond_true,dT (by rw [List.length_append]; exact ho),cond_true,fdivN,fdivN,Nat.div_one,List.append_assoc]; rfl
theorem qzp (k0:List UInt8→Int→Int→Option AV) (next:List UInt8→Int→Int→List UInt8→Int→Int→Option AV) (j n:Nat) (out:List UInt8) (h m x:Nat) (s8:List UInt8) (s9 s10:Int)
 (hm:m=0∨m=2∨m=4) (hh:h < 2 ^ m) (hx:x < 256) (ho:out.length+2≤room) :
 qec (qbz k0 next j) (n+3) out (bits .or .i64 (IntKind.wrap .i64 ((h:Int)*2 ^ (min (Int.toNat (8:Int)) (IntKind.bits .i64)))) (IntKind.wrap .i64 (x:Int))) (IntKind.wrap .i64 ((m:Int)+8)) s8 s9 s10
  = next (out++encD m h x) (encH m h x:Nat) (encM m:Nat) s8 s9 (IntKind.wrap .i64 (s10+1)):=by
 have hh16:h < 16:=by rcases hm with rfl | rfl | rfl <;> omega
 rw [held8 h x hh16 hx]
 rcases hm with rfl | rfl | rfl
 ·rw [show IntKind.wrap .i64 (((0:Nat):Int)+8)=8 from rfl,qIv _ _ _ _ _ _ _ (by omega)]
  have e:qbz k0 next j (out++[z132 (((h*256+x) / 4:Nat):Int)]) ((h*256+x:Nat):Int) 2 s8 s9 s10=next (out++[z132 (((h*256+x) / 4:Nat):Int)]) (bits .and .i64 ((h*256+x:Nat):Int) ((2 ^ 2 - 1:Nat):Int)) 2 s8 s9 (IntKind.wrap .i64 (s10+1)):=rfl
  rw [e,qvY _ 2 (by omega) (by decide)]
  have e2:encD 0 h x=[z132 (((h*256+x) / 4:Nat):Int)]:=rfl
  have e3:encH 0 h x=(h*256+x) % 2 ^ 2:=rfl
  have e4:encM 0=2:=rfl
  rw [e2,e3,e4]; rfl
 ·rw [show IntKind.wrap .i64 (((2:Nat):Int)+8)=10 from rfl,qIw _ _ _ _ _ _ _ (by omega)]
  have e:qbz k0 next j (out++[z132 (((h*256+x) / 16:Nat):Int)]) ((h*256+x:Nat):Int) 4 s8 s9 s10=next (out++[z132 (((h*256+x) / 16:Nat):Int)]) (bits .and .i64 ((h*256+x:Nat):Int) ((2 ^ 4 - 1:Nat):Int)) 4 s8 s9 (IntKind.wrap .i64 (s10+1)):=rfl
  rw [e,qvY _ 4 (by omega) (by decide)]
  have e2:encD 2 h x=[z132 (((h*256+x) / 16:Nat):Int)]:=rfl
  have e3:encH 2 h x=(h*256+x) % 2 ^ 4:=rfl
  have e4:encM 2=4:=rfl
  rw [e2,e3,e4]; rfl
 ·rw [show IntKind.wrap .i64 (((4:Nat):Int)+8)=12 from rfl,qIx _ _ _ _ _ _ _ ho]
  have e0:qbz k0 next j (out++[z132 (((h*256+x) / 64:Nat):Int),z132 ((h*256+x:Nat):Int)]) ((h*256+x:Nat):Int) 0 s8 s9 s10=next (out++[z132 (((h*256+x) / 64:Nat):Int),z132 ((h*256+x:Nat):Int)]) (bits .and .i64 ((h*256+x:Nat):Int) ((2 ^ 0 - 1:Nat):Int)) 0 s8 s9 (IntKind.wrap .i64 (s10+1)):=rfl
  rw [e0,qvY _ 0 (by omega) (by decide)]
  have e3:encH 4 h x=(h*256+x) % 2 ^ 0:=rfl
  have e4:encM 4=0:=rfl
  have e:encD 4 h x=[z132 (((h*256+x) / 64:Nat):Int),z132 ((h*256+x:Nat):Int)]:=by
   show [z132 (((h*256+x:Nat):Int) / 64),_]=_
   rw [Int.natCast_ediv]; rfl
  rw [e,e3,e4]; rfl
theorem qDr (m:Nat) (s out:List UInt8) (mm h:Nat) (e:EncSt s out mm h) (ho:out.length+1≤room):qcB m out (h:Int) (mm:Int)=qkE (z90 s):=by
 have hc:=e.cases
 have hl:=e.lt
 unfold qcB
 rcases hc with rfl | rfl | rfl
 ·rw [dF (by omega),cond_false,e.bare_nil]
 ·rw [e.bare_some (by decide),dT (by omega),cond_true]
  have e1:IntKind.wrap .i64 ((h:Int)*2 ^ (min (Int.toNat (IntKind.wrap .i64 ((6:Int) - ((2:Nat):Int)))) (IntKind.bits .i64)))=((h*2 ^ (6 - 2):Nat):Int):=by
   show IntKind.wrap .i64 ((h:Int)*16)=_
   rw [IntWalk.i64_in _ (by omega)]; omega
  rw [e1,dT (show (0:Int)≤IntKind.wrap .i64 ((6:Int) - ((2:Nat):Int)) from by decide),cond_true,dT (show out.length+[_].length≤room from ho),cond_true]
 ·rw [e.bare_some (by decide),dT (by omega),cond_true]
  have e1:IntKind.wrap .i64 ((h:Int)*2 ^ (min (Int.toNat (IntKind.wrap .i64 ((6:Int) - ((4:Nat):Int)))) (IntKind.bits .i64)))=((h*2 ^ (6 - 4):Nat):Int):=by
   show IntKind.wrap .i64 ((h:Int)*4)=_
   rw [IntWalk.i64_in _ (by omega)]; omega
  rw [e1,dT (show (0:Int)≤IntKind.wrap .i64 ((6:Int) - ((4:Nat):Int)) from by decide),cond_true,dT (show out.length+[_].length≤room from ho),cond_true]
theorem qDs (m h x:Nat):(encD m h x).length≤2:=by
 unfold encD
 cases m==4
 ·exact Nat.le_succ 1
 ·exact Nat.le_refl 2
theorem qkJ (j:Nat) (s:List UInt8) (hl:s.length≤1048576):∀ (d i n:Nat) (out:List UInt8) (h m:Nat),i+d=s.length→d+3 < n→EncSt (s.take i) out m h→out.length≤2*i →
 qmy (qcB j) n out (h:Int) (m:Int) s (s.length:Nat) (i:Nat)=qkE (z90 s)
 | d,i,0,out,h,m,hi,hn,_,_=>by omega
 | 0,i,n+1,out,h,m,hi,hn,e,ho=>by
  obtain rfl:i=s.length:=by omega
  show qcA _ _ n _ _ _ _ _ _=_
  unfold qcA
  rw [dF (by omega),cond_false]
  rw [List.take_length] at e
  exact qDr j s out m h e (by unfold room; omega)
 | d+1,i,n+1,out,h,m,hi,hn,e,ho=>by
  show qcA _ _ n _ _ _ _ _ _=_
  unfold qcA
  have hlt:i < s.length:=by omega
  have hx:=(s.getD i 0).toNat_lt
  simp (disch:=omega) only [dT,cond_true,Bool.and_true,tn]
  obtain ⟨n',rfl⟩:∃ n',n=n'+3:=⟨n - 3,by omega⟩
  rw [qzp _ _ _ n' out h m _ s _ _ e.cases e.lt hx (by unfold room; omega),qr (by omega)]
  have e2:=e.step (s.getD i 0)
  have ht:s.take i++[s.getD i 0]=s.take (i+1):=by
   rw [List.take_succ_eq_append_getElem hlt,List.getD_eq_getElem?_getD,List.getElem?_eq_getElem hlt]; rfl
  rw [ht] at e2
  have hd:=qDs m h (s.getD i 0).toNat
  exact qkJ j s hl d (i+1) (n'+3) _ _ _ (by omega) (by omega) e2 (by rw [List.length_append]; omega)
theorem qDt:∀ (s0:List UInt8),(qIJ s0=true)→∃ n,qyL n s0=qkE (z88 s0):=fun s h=>⟨s.length+5,by
 have hl:=qn h
 unfold qyL
 exact qkJ (s.length+5) s hl s.length 0 (s.length+5) [] 0 0 (by omega) (by omega) EncSt.nil (by simp)⟩
theorem qzq {s:List UInt8} {i:Nat} (h:i < s.length):s.drop i=s.getD i 0 :: s.drop (i+1):=by
 rw [List.drop_eq_getElem_cons h,List.getD_eq_getElem?_getD,List.getElem?_eq_getElem h]; rfl
theorem qpg (m:Nat) (s:List UInt8) (hl:s.length≤262144):∀ (d i n:Nat) (out:List UInt8),i+d=s.length→d < n→out.length≤3*i →
 qmx (qgq m) n out s (s.length:Nat) (i:Nat)=qkD (out++z50 (s.drop i))
 | d,i,0,out,hi,hn,_=>by omega
 | 0,i,n+1,out,hi,hn,ho=>by
  obtain rfl:i=s.length:=by omega
  show qeb _ _ n _ _ _ _=_
  unfold qeb
  rw [dF (by omega),cond_false,List.drop_length]
  show qkD out=qkD (out++[])
  rw [List.append_nil]
 | d+1,i,n+1,out,hi,hn,ho=>by
  show qeb _ _ n _ _ _ _=_
  unfold qeb
  have hlt:i < s.length:=by omega
  have e:z50 (s.drop i)=z91 (s.getD i 0)++z50 (s.drop (i+1)):=by rw [qzq hlt]; rfl
  have hlen:(z91 (s.getD i 0)).length≤3:=by rw [qdB]; exact (qqX _).1
  have ih:=qpg m s hl d (i+1) n (out++z91 (s.getD i 0)) (by omega) (by omega) (by rw [List.length_append]; omega)
  rw [e,← List.append_assoc,← ih]
  simp (disch:=omega) only [dT,cond_true,Bool.and_true,tn]
  have hroom:∀ y:UInt8,out.length+([y]:List UInt8).length≤room:=fun y=>by show out.length+1≤room; unfold room; omega
  have hd:z91 (s.getD i 0)=bif s.getD i 0==32 then [95] else bif z82 (s.getD i 0) 128 then [s.getD i 0] else z137 [] 61 (s.getD i 0):=rfl
  have hq:z84 (s.getD i 0)=bif (s.getD i 0==32)||z129 (s.getD i 0) 128 then 1 else 3:=rfl
  rw [qr (by omega),hd,hq]
  cases h32:s.getD i 0==32 with
  | true=>rw [cond_true,dT (hroom 95)]; rfl
  | false =>
   rw [Bool.false_or]
   cases hw:z129 (s.getD i 0) 128 with
   | true=>rw [show z82 (s.getD i 0) 128=true from hw,cond_false,cond_true,show ((1:Int)==1)=true from rfl,cond_true,dT (hroom _)]; rfl
   | false =>
    rw [show z82 (s.getD i 0) 128=false from hw,cond_false,cond_false,show ((3:Int)==1)=false from rfl,cond_false]
    have hok:qAv out 61 (s.getD i 0)=true:=qaO (by omega)
    rw [hok]
    rfl
theorem qph:∀ s:List UInt8,qLen s≤3*s.length
 | []=>Nat.le_refl _
 | c :: r=>by
  have h1:=qph r
  have h2:=(qqX c).1
  unfold qLen at h1 ⊢
  simp only [List.map_cons,List.sum_cons,List.length_cons]
  omega
theorem qDu:∀ (s0:List UInt8),(qAx s0=true)→∃ n,qyK n s0=qkD (z46 s0):=fun s h=>⟨s.length+1,by
 have hl:s.length≤262144:=of_decide_eq_true h
 have hq:=qph s
 unfold qyK
 rw [show qgT s=true from by unfold qgT; exact decide_eq_true (by omega)]
 have h1:(0:Int)≤z83 s:=by show (0:Int)≤((qLen s:Nat):Int); omega
 have h2:z83 s≤(room:Int):=by show ((qLen s:Nat):Int)≤_; unfold room; omega
 rw [dT h1,dT h2]
 have:=qpg (s.length+1) s hl s.length 0 (s.length+1) [] (by omega) (by omega) (by simp)
 rw [List.drop_zero,List.nil_append] at this
 exact this⟩
theorem qvZ (ret:Bool→Option AV) (a b:List Int) (hab:a.length=b.length) (hl:a.length≤1048576):∀ (d i n:Nat),i+d=a.length→d < n →
 qiW ret (ret true) n a b (i:Nat)=ret (decide (a.drop i=b.drop i))
 | d,i,0,hi,hn=>by omega
 | 0,i,n+1,hi,hn=>by
  show qdU ret (ret true) (qiW ret (ret true) n) n a b _=_
  unfold qdU
  rw [decide_eq_false (by omega),cond_false,List.drop_eq_nil_of_le (by omega),List.drop_eq_nil_of_le (by omega)]
  rfl
 | d+1,i,n+1,hi,hn=>by
  show qdU ret (ret true) (qiW ret (ret true) n) n a b _=_
  unfold qdU
  have hlt:i < a.length:=by omega
  have hlt':i < b.length:=by omega
  have ih:=qvZ ret a b hab hl d (i+1) n (by omega) (by omega)
  simp (disch:=omega) only [dT,cond_true,Bool.and_true,tn,qr]
  rw [ih,qyU hlt hlt' 0]
  cases (a.getD i 0 != b.getD i 0) <;> rfl
theorem qDv:∀ (a0:List Int) (b1:List Int),(qAz a0 b1=true)→∃ n,qyH n a0 b1=qhf (z21 a0 b1):=fun a b h=>⟨a.length+1,by
 unfold qyH z21
 by_cases hab:a.length=b.length
 ·rw [show (((a.length:Nat):Int) != ((b.length:Nat):Int))=false by simp [hab],cond_false]
  exact qvZ qhf a b hab (qn h) a.length 0 (a.length+1) (by omega) (by omega)
 ·rw [show (((a.length:Nat):Int) != ((b.length:Nat):Int))=true by simp only [bne_iff_ne,ne_eq]; omega,cond_true,decide_eq_false (fun e=>hab (by rw [e]))]⟩
theorem qkK (cs:Int):(z89 cs).length≤20:=by
 unfold z89 z133
 cases cs==1
 ·cases cs==2
  ·cases cs==3
   ·cases cs==4
    ·cases cs==5
     ·exact Nat.zero_le _
     ·exact Nat.le_of_ble_eq_true rfl
    ·exact Nat.le_of_ble_eq_true rfl
   ·exact Nat.le_of_ble_eq_true rfl
  ·exact Nat.le_of_ble_eq_true rfl
 ·exact Nat.le_of_ble_eq_true rfl
theorem qqY (c:Int):(z45 c).length≤1:=by
 unfold z45
 cases c==1
 ·cases c==2
  ·exact Nat.zero_le _
  ·exact Nat.le_refl _
 ·exact Nat.le_refl _
theorem qwa (cs c:Int):(z48 cs c).length≤25:=by
 have h1:=qkK cs
 have h2:=qqY c
 unfold z48
 simp only [List.length_append,List.length_cons,List.length_nil]
 omega
theorem qDw (s:List UInt8):(z47 s).length≤4*s.length+8:=by
 obtain ⟨k,hk,e,_⟩:=qAt s
 have h6:=(qjk s).2.2.2
 have:(z47 s).length=(z90 s).length+k:=by rw [show z47 s=z90 s++List.replicate k 61 from e,List.length_append,List.length_replicate]
 unfold qL at h6
 omega
theorem qwb:∀ s:List UInt8,(z50 s).length≤3*s.length
 | []=>Nat.le_refl _
 | c :: r=>by
  have h1:=qwb r
  have h2:=(qqX c).1
  show (z91 c++z50 r).length≤_
  rw [List.length_append,qdB,List.length_cons]; omega
theorem isE (s:List UInt8):(((s.length:Nat):Int)==0)=s.isEmpty:=by
 cases s with
 | nil=>rfl
 | cons x r=>simp only [List.isEmpty_cons,List.length_cons]; rw [beq_eq_false_iff_ne]; omega
theorem i75 (l:List UInt8):decide ((75:Int) < ((l.length:Nat):Int))=decide (75 < l.length):=by
 by_cases h:75 < l.length
 ·rw [dT (by omega),decide_eq_true h]
 ·rw [dF (by omega),decide_eq_false h]
theorem qDx:∀ (charset0:Int) (code1:Int) (s2:List UInt8),(qAy charset0 code1 s2=true)→∃ n,qCH n charset0 code1 s2=qeA (z15 charset0 code1 s2).1 (z15 charset0 code1 s2).2:=fun cs code s h=>⟨0,by
 have hl:s.length≤262144:=of_decide_eq_true h
 have h1:=qwa cs code
 have h2:=qDw s
 have h3:(z46 s).length≤3*s.length:=qwb s
 have hroom:room ≥ 4000000:=by unfold room; omega
 unfold qCH z15
 rw [show qAx s=true from decide_eq_true hl,show qDO s=true from qaO (by omega),isE,i75,i75]
 rw [decide_eq_true (show (z48 cs code).length≤room by omega),decide_eq_true (show (z48 cs code).length+(z47 s).length≤room by omega),decide_eq_true (show (z48 cs code).length+(z46 s).length≤room by omega),
  decide_eq_true (show ((z48 cs code)++(z47 s)).length+([63,61]:List UInt8).length≤room by rw [List.length_append]; simp only [List.length_cons,List.length_nil]; omega),
  decide_eq_true (show ((z48 cs code)++(z46 s)).length+([63,61]:List UInt8).length≤room by rw [List.length_append]; simp only [List.length_cons,List.length_nil]; omega)]
 cases z44 cs
 ·rfl
 ·cases (z45 code==[])
  ·cases s.isEmpty
   ·cases (code==1)
    ·simp only [cond_true,cond_false,Bool.not_true,Bool.or_self,Bool.and_true]
     cases decide (75 < (z48 cs code++z46 s++[63,61]).length) <;> rfl
    ·simp only [cond_true,cond_false,Bool.not_true,Bool.or_self,Bool.and_true]
     cases decide (75 < (z48 cs code++z47 s++[63,61]).length) <;> rfl
   ·rfl
  ·rfl⟩
theorem qzr:∀ (c0:Int),∃ n,quI n c0=qmn (z230 c0):=fun c=>⟨0,by
 unfold quI z230
 cases decide ((55296:Int)≤c) <;> rfl⟩
theorem qzs:∀ (c0:Int),∃ n,quJ n c0=qmo (z199 c0):=fun c=>⟨0,by
 unfold quJ z199
 cases decide (IntKind.wrap .u32 c≤1114111) <;> rfl⟩
theorem qzt:∀ (c0:Int),∃ n,qAR n c0=quM (z243 c0):=fun _=>⟨0,rfl⟩
theorem qzu:∀ (c0:Int),∃ n,qvJ n c0=qmF (z234 c0):=fun c=>⟨0,by
 unfold qvJ z234
 cases decide ((55296:Int)≤c) <;> rfl⟩
theorem qzv:∀ (c0:Int),∃ n,qvK n c0=qjc (z209 c0):=fun c=>⟨0,by
 unfold qvK z209
 cases decide ((0:Int)≤c) <;> cases decide (c≤(1114111:Int)) <;> rfl⟩
theorem qeq {p:Int→Bool} {t:List Int} {k0:Option AV} {ret:Int→Option AV} {x:Option AV} (h:x=bif qV p (t.drop 0) (0:Nat) == -1 then k0 else ret (qV p (t.drop 0) (0:Nat))) (hk:k0=ret (-1)):x=ret (qV p t 0):=by
 rw [h,List.drop_zero]
 cases e:(qV p t (0:Nat) == -1) with
 | true =>
  rw [beq_iff_eq] at e
  have e':qV p t 0 = -1:=e
  rw [e',hk]
  rfl
 | false=>rfl
theorem qzw:∀ (s0:List Int) (v1:Int),(qeE s0 v1=true)→∃ n,qoE n s0 v1=qfY (z233 s0 v1):=fun t v h=>⟨t.length+1,by
 have hl:=qn (l:=t) h
 unfold qoE z233
 refine qeq (qbd (L:=fun n i=>qfZ qfY (qdh (t.length+1)) n t v ((t.length:Nat):Int) i) hl (fun n i hi=>?_) (fun n=>?_) t.length 0 (t.length+1) (by omega) (by omega)) rfl
 ·show qbM _ _ _ n _ _ _ _=_
  unfold qbM
  simp (disch:=omega) only [dT,cond_true,Bool.and_true,tn,qr]
  cases (v==t.getD i 0) <;> rfl
 ·show qbM _ _ _ n _ _ _ _=_
  unfold qbM
  rw [dF (by omega)]
  rfl⟩
theorem qzx:∀ (t:List Int),(qpq t=true)→∃ n,qoG n t=qgc (z242 t):=fun t h=>⟨t.length+1,by
 have hl:=qn (l:=t) h
 unfold qoG z242
 refine qeq (qbd (L:=fun n i=>qgd qgc (qdj (t.length+1)) n t ((t.length:Nat):Int) i) hl (fun n i hi=>?_) (fun n=>?_) t.length 0 (t.length+1) (by omega) (by omega)) rfl
 ·show qbO _ _ _ n _ _ _=_
  unfold qbO
  simp (disch:=omega) only [dT,cond_true,Bool.and_true,tn,qr]
  unfold z243
  cases z199 (t.getD i 0) <;> rfl
 ·show qbO _ _ _ n _ _ _=_
  unfold qbO
  rw [dF (by omega)]
  rfl⟩
theorem qzy:∀ (t:List Int),(qpu t=true)→∃ n,qoJ n t=qgh (z206 t):=fun t h=>⟨t.length+1,by
 have hl:=qn (l:=t) h
 unfold qoJ z206
 refine qeq (qbd (L:=fun n i=>qgi qgh (qdk (t.length+1)) n t ((t.length:Nat):Int) i) hl (fun n i hi=>?_) (fun n=>?_) t.length 0 (t.length+1) (by omega) (by omega)) rfl
 ·show qbT _ _ _ n _ _ _=_
  unfold qbT
  simp (disch:=omega) only [dT,cond_true,Bool.and_true,tn,qr]
  cases z198 (t.getD i 0) <;> rfl
 ·show qbT _ _ _ n _ _ _=_
  unfold qbT
  rw [dF (by omega)]
  rfl⟩
theorem qzz:∀ (t:List Int),(qpv t=true)→∃ n,qoL n t=qgk (z208 t):=fun t h=>⟨t.length+1,by
 have hl:=qn (l:=t) h
 unfold qoL z208
 refine qeq (qbd (L:=fun n i=>qgl qgk (qdl (t.length+1)) n t ((t.length:Nat):Int) i) hl (fun n i hi=>?_) (fun n=>?_) t.length 0 (t.length+1) (by omega) (by omega)) rfl
 ·show qbW _ _ _ n _ _ _=_
  unfold qbW
  simp (disch:=omega) only [dT,cond_true,Bool.and_true,tn,qr]
  cases z196 (t.getD i 0) <;> rfl
 ·show qbW _ _ _ n _ _ _=_
  unfold qbW
  rw [dF (by omega)]
  rfl⟩
theorem qzA:∀ (cs:Int) (t:List Int),(qpA cs t=true)→∃ n,qoF n cs t=qga (z202 cs t):=fun cs t h=>⟨t.length+1,by
 have hl:=qn (l:=t) h
 unfold qoF z202
 refine qeq (qbd (L:=fun n i=>qgb qga (qdi (t.length+1)) n cs t ((t.length:Nat):Int) i) hl (fun n i hi=>?_) (fun n=>?_) t.length 0 (t.length+1) (by omega) (by omega)) rfl
 ·show qbN _ _ _ n _ _ _ _=_
  unfold qbN
  simp (disch:=omega) only [dT,cond_true,Bool.and_true,tn,qr]
  cases z157 cs (t.getD i 0) <;> rfl
 ·show qbN _ _ _ n _ _ _ _=_
  unfold qbN
  rw [dF (by omega)]
  rfl⟩
theorem qzB:∀ (t0:List Int),(qpr t0=true)→∃ n,quO n t0=quN (z231 t0):=fun t h=>⟨0,by
 unfold quO
 rw [show qpq t=true from h]
 rfl⟩
theorem qzC:∀ (t0:List Int),(qps t0=true)→∃ n,quQ n t0=quP (z203 t0):=fun t h=>⟨0,by
 unfold quQ
 rw [show qpr t=true from h]
 rfl⟩
theorem qzD:∀ (c0:Int),∃ n,quS n c0=qdV (z232 c0):=fun c=>⟨0,by
 unfold quS z232
 cases z199 c <;> cases decide (c < (128:Int)) <;> cases decide (c < (2048:Int)) <;> cases decide (c < (65536:Int)) <;> rfl⟩
theorem qkL (c:Int):z232 c=0∨z232 c=1∨z232 c=2∨z232 c=3∨z232 c=4:=by
 unfold z232
 cases z199 c <;> cases decide (c < (128:Int)) <;> cases decide (c < (2048:Int)) <;> cases decide (c < (65536:Int)) <;> simp
theorem qzE:∀ (b0:List UInt8) (c1:Int),(qpt b0 c1=true)→∃ n,quT n b0 c1=qdW (z204 b0 c1).1 (z204 b0 c1).2:=fun b c h=>⟨0,by
 have hl:=qn (l:=b) h
 unfold quT z204
 rw [show qws b=true from h,show z38 b=b from rfl]
 have hr:∀ (l m:List UInt8),l.length≤1048580→m.length≤10→decide (l.length+m.length≤room)=true:=fun l m h1 h2=>dT (by unfold room; omega)
 rcases qkL c with e | e | e | e | e <;> rw [e]
 ·rfl
 ·rw [hr b _ (by omega) (by simp)]; rfl
 ·simp only [show ((2:Int)==0)=false from rfl,show ((2:Int)==4)=false from rfl,show ((2:Int)==3)=false from rfl,show ((2:Int)==2)=true from rfl,cond_false,cond_true]
  rw [hr b _ (by omega) (by simp),hr (b++_) _ (by simp; omega) (by simp)]
  simp only [List.append_assoc]; rfl
 ·simp only [show ((3:Int)==0)=false from rfl,show ((3:Int)==4)=false from rfl,show ((3:Int)==3)=true from rfl,cond_false,cond_true]
  rw [hr b _ (by omega) (by simp),hr (b++_) _ (by simp; omega) (by simp),hr (b++_++_) _ (by simp; omega) (by simp)]
  simp only [List.append_assoc]; rfl
 ·simp only [show ((4:Int)==0)=false from rfl,show ((4:Int)==4)=true from rfl,cond_false,cond_true]
  rw [hr b _ (by omega) (by simp),hr (b++_) _ (by simp; omega) (by simp),hr (b++_++_) _ (by simp; omega) (by simp),hr (b++_++_++_) _ (by simp; omega) (by simp)]
  simp only [List.append_assoc]; rfl⟩
theorem qgS {c:Int} (h0:0≤c) (h1:c≤1114111):IntKind.wrap .i64 c=c:=IntWalk.i64_in c (by omega)
theorem qzF:∀ (c0:Int),∃ n,qvM n c0=qej (z171 c0):=fun c=>⟨0,by
 unfold qvM z171
 cases h:z209 c with
 | false=>rfl
 | true =>
  unfold z209 at h
  simp only [Bool.and_eq_true,decide_eq_true_eq] at h
  have e1:Int.tdiv c 64=c / 64:=Int.tdiv_eq_ediv_of_nonneg h.1
  have e2:Int.tdiv c 4096=c / 4096:=Int.tdiv_eq_ediv_of_nonneg h.1
  have e3:Int.tdiv c 262144=c / 262144:=Int.tdiv_eq_ediv_of_nonneg h.1
  have e4:Int.tmod c 64=c % 64:=Int.tmod_eq_emod_of_nonneg h.1
  have e5:Int.tmod (c / 64) 64=c / 64 % 64:=Int.tmod_eq_emod_of_nonneg (by omega)
  have e6:Int.tmod (c / 4096) 64=c / 4096 % 64:=Int.tmod_eq_emod_of_nonneg (by omega)
  rw [qgS h.1 h.2.1,e1,e2,e3,e4,qgS (c:=c / 64) (by omega) (by omega),qgS (c:=c / 4096) (by omega) (by omega),qgS (c:=c / 262144) (by omega) (by omega),e5,e6,
   qgS (c:=192+c / 64) (by omega) (by omega),qgS (c:=128+c % 64) (by omega) (by omega),qgS (c:=224+c / 4096) (by omega) (by omega),qgS (c:=128+c / 64 % 64) (by omega) (by omega),
   qgS (c:=240+c / 262144) (by omega) (by omega),qgS (c:=128+c / 4096 % 64) (by omega) (by omega)]
  cases decide (c < (128:Int)) <;> cases decide (c < (2048:Int)) <;> cases decide (c < (65536:Int)) <;> rfl⟩
theorem qwc {β:Type} (ret:UInt8→Bool→β) (b:Bool) (x y:UInt8×Bool):ret (bif b then x else y).1 (bif b then x else y).2=bif b then ret x.1 x.2 else ret y.1 y.2:=by cases b <;> rfl
theorem qzG:∀ (c0:Int),∃ n,quD n c0=qbx (z205 c0).1 (z205 c0).2:=fun c=>⟨9,by
 unfold z205
 simp only [qwc]
 rw [show (bif decide (c < 0)||decide (256≤c) then qbx (0,false).1 (0,false).2 else qbx (oct8 c,true).1 (oct8 c,true).2)=qbL 9 c from by
  unfold qbL
  cases decide (c < (0:Int)) <;> cases decide ((256:Int)≤c) <;> rfl]
 rfl⟩
theorem qzH:∀ (c0:Int),∃ n,qAO n c0=quE (z197 c0):=fun _=>⟨0,rfl⟩
theorem qzI:∀ (c0:Int),∃ n,quG n c0=qH (z207 c0).1 (z207 c0).2:=fun c=>⟨0,by
 unfold quG z207
 rw [show qeE z186 c=true from by show lenOk z186=true; decide]
 have h1:decide (0≤c)=false→decide (c < 256)=true:=by simp; omega
 have h2:decide (c < 128)=true→decide (c < 256)=true:=by simp; omega
 have h3:decide (160≤c)=true→decide (0≤c)=true:=by simp; omega
 have h4:decide (160≤c)=true→decide (c < 128)=false:=by simp; omega
 have h5:decide (160≤c)=false→decide (c < 256)=true:=by simp; omega
 simp only [qwc]
 revert h1 h2 h3 h4 h5
 cases decide ((0:Int)≤c) <;> cases decide (c < (128:Int)) <;> cases decide ((160:Int)≤c) <;> cases decide (c < (256:Int)) <;> cases decide (z233 z186 c < (0:Int)) <;> intro h1 h2 h3 h4 h5 <;> first | rfl | (exfalso; revert h1 h2 h3 h4 h5; decide)⟩
theorem qzJ:∀ (c0:Int),∃ n,qAQ n c0=quH (z198 c0):=fun _=>⟨0,rfl⟩
theorem qzK:∀ (c0:Int),∃ n,qAM n c0=quB (z196 c0):=fun _=>⟨0,rfl⟩
theorem qpi (k0:List UInt8→Option AV) (t:List Int) (hl:t.length≤1048576):∀ (d i n:Nat),i+d=t.length→d < n →
 qdm k0 n ((t.take i).map (fun c=>UInt8.ofNat (Int.toNat (IntKind.wrap .u8 c)))++List.replicate (t.length - i) 0) t (t.length:Nat) (i:Nat)=k0 (t.map fun c=>UInt8.ofNat (Int.toNat (IntKind.wrap .u8 c)))
 | d,i,0,hi,hn=>by omega
 | 0,i,n+1,hi,hn=>by
  show qbX k0 (qdm k0 n) n _ t _ _=_
  unfold qbX
  obtain rfl:i=t.length:=by omega
  rw [decide_eq_false (by omega),cond_false,List.take_length,Nat.sub_self]
  simp
 | d+1,i,n+1,hi,hn=>by
  show qbX k0 (qdm k0 n) n _ t _ _=_
  unfold qbX
  have hlt:i < t.length:=by omega
  have hl2:((t.take i).map (fun c=>UInt8.ofNat (Int.toNat (IntKind.wrap .u8 c)))++List.replicate (t.length - i) (0:UInt8)).length=t.length:=by simp; omega
  have ih:=qpi k0 t hl d (i+1) n (by omega) (by omega)
  rw [qDY,decide_eq_true hlt,cond_true,qjq,Bool.true_and,cond_true,Bool.true_and,qDY,hl2,decide_eq_true hlt,cond_true,qr (by omega),qwA,
   qCZ (fun c=>UInt8.ofNat (Int.toNat (IntKind.wrap .u8 c))) t 0 i hlt 0]
  exact ih
theorem qzL:∀ (t0:List Int),(qpw t0=true)→∃ n,qoM n t0=qms (z166 t0).1 (z166 t0).2:=fun t h=>⟨t.length+1,by
 have hl:=qn h
 unfold qoM z166
 rw [show qpv t=true from h,Bool.and_true,cond_true]
 cases z208 t != -1 with
 | true=>rfl
 | false =>
  have:=qpi (qbY (t.length+1)) t hl t.length 0 (t.length+1) (by omega) (by omega)
  rw [cond_false,cond_false,qjq,decide_eq_true (Int.le_refl _),decide_eq_true (by unfold room; omega)]
  unfold qbY at this ⊢
  simpa using this⟩
theorem qzM:∀ (x0:UInt8),∃ n,qBg n x0=qvI (z210 x0):=fun _=>⟨0,rfl⟩
theorem qqZ (i:Int) (h0:0≤i) (h1:i < 256):z210 (UInt8.ofNat (Int.toNat (IntKind.wrap .u8 i)))=i:=by
 unfold z210
 rw [IntWalk.u8_in i (by omega),UInt8.toNat_ofNat',Nat.mod_eq_of_lt (by omega),IntWalk.i32_in _ (by omega)]
 omega
theorem qpj (ret:UInt8→Bool→Option AV) (k0:Option AV) (c:Int):∀ (d:Nat) (i:Int) (n:Nat),i=256 - d→0≤i→d < n →
 qeB ret k0 n c i=bif decide (i≤c)&&decide (c < 256) then ret (UInt8.ofNat c.toNat) true else k0
 | d,i,0,hi,h0,hn=>by omega
 | 0,i,n+1,hi,h0,hn=>by
  obtain rfl:i=256:=by omega
  have h1:(decide ((256:Int)≤c)&&decide (c < 256))=false:=by
   simp only [Bool.and_eq_false_iff,decide_eq_false_iff_not]; omega
  rw [h1]
  rfl
 | d+1,i,n+1,hi,h0,hn=>by
  have hlt:i < 256:=by omega
  show qeX ret k0 (qeB ret k0 n) n c i=_
  unfold qeX
  rw [decide_eq_true hlt,cond_true,qqZ i h0 hlt,IntWalk.i64_in (i+1) (by omega),qpj ret k0 c d (i+1) n (by omega) (by omega) (by omega)]
  by_cases e:i=c
  ·subst e
   have h1:(i != 65533)=true:=by simp only [bne_iff_ne,ne_eq]; omega
   rw [beq_self_eq_true,cond_true,h1,cond_true,decide_eq_true (Int.le_refl i),decide_eq_true hlt,IntWalk.u8_in i (by omega)]
   rfl
  ·have h1:(i==c)=false:=by simp [e]
   have h2:decide (i+1≤c)=decide (i≤c):=by simp only [decide_eq_decide]; omega
   rw [h1,cond_false,h2]
theorem qzN:∀ (c0:Int),∃ n,qoW n c0=qjb (z168 c0).1 (z168 c0).2:=fun c=>⟨257,by
 unfold qoW z168
 rw [qpj _ _ c 256 0 257 (by omega) (by omega) (by omega)]
 cases decide (0≤c)&&decide (c < 256) <;> rfl⟩
theorem qwd (i:Nat) (h:i < 256):UInt8.ofNat (Int.toNat (IntKind.wrap .u8 (i:Int)))=UInt8.ofNat i:=by
 rw [IntWalk.u8_in _ (by omega)]; simp
theorem qLa:∀ i:Fin 256,z205 (z64 (UInt8.ofNat i.val))=(UInt8.ofNat i.val,true):=by decide +kernel
theorem qLb:∀ i:Fin 256,((z205 ((i.val:Nat):Int)).2=true→z64 (z205 ((i.val:Nat):Int)).1=((i.val:Nat):Int))∧((z205 ((i.val:Nat):Int)).2=false→(z205 ((i.val:Nat):Int)).1=0):=by decide +kernel
theorem qLc:∀ c∈([8364,352,353,381,382,338,339,376]:List Int),(z205 c).2=true∧z64 (z205 c).1=c∧c≠65533:=by decide +kernel
theorem qDy {c:Int} (h:c ∉ ([8364,352,353,381,382,338,339,376]:List Int)) (hc:c < 0∨256≤c):z205 c=(0,false):=by
 simp only [List.mem_cons,List.not_mem_nil,or_false,not_or] at h
 obtain ⟨h1,h2,h3,h4,h5,h6,h7,h8⟩:=h
 unfold z205
 simp (disch:=omega) only [beqF,cond_false]
 rw [show (decide (c < 0)||decide (256≤c))=true by simp; omega]
 rfl
theorem qkM (c:Int):((z205 c).2=true→z64 (z205 c).1=c∧c≠65533)∧((z205 c).2=false→(z205 c).1=0):=by
 by_cases h:c∈([8364,352,353,381,382,338,339,376]:List Int)
 ·have:=qLc c h
  exact ⟨fun _=>this.2,fun e=>by rw [this.1] at e; cases e⟩
 ·by_cases hc:c < 0∨256≤c
  ·rw [qDy h hc]; exact ⟨(fun e=>by cases e),fun _=>rfl⟩
  ·have hb:=qLb ⟨c.toNat,by omega⟩
   simp only [Int.toNat_of_nonneg (show 0≤c by omega)] at hb
   exact ⟨fun e=>⟨hb.1 e,by omega⟩,hb.2⟩
theorem qzO:∀ (c0:Int),∃ n,qoX n c0=qgw (z169 c0).1 (z169 c0).2:=fun c=>⟨257,by
 unfold qoX z169
 refine qmM (sign:=z64) (put:=z205) (L:=fun n i=>qgx qgw (qdw 257) n c i) (fun n i hi=>?_) (fun n=>rfl) (fun i hi h1 h2=>?_) (qkM c).1 (qkM c).2 256 0 257 (by omega) (by omega) (fun j hj=>by omega)
 ·show qeZ _ _ _ n _ _=_
  unfold qeZ
  simp (disch:=omega) only [dT,cond_true,qr,qwd]
 ·have:=qLa ⟨i,hi⟩
  rw [← h1]
  exact this⟩
theorem win_A:∀ i:Fin 256,z65 (UInt8.ofNat i.val)≠65533→z207 (z65 (UInt8.ofNat i.val))=(UInt8.ofNat i.val,true):=by decide +kernel
theorem win_B:∀ i:Fin 256,((z207 ((i.val:Nat):Int)).2=true→z65 (z207 ((i.val:Nat):Int)).1=((i.val:Nat):Int))∧((z207 ((i.val:Nat):Int)).2=false→(z207 ((i.val:Nat):Int)).1=0):=by decide +kernel
theorem win_C:∀ c∈z186,256≤c→(z207 c).2=true∧z65 (z207 c).1=c∧c≠65533:=by decide +kernel
theorem qwe (c:Int):∀ (l:List Int) (i:Int),0≤i→c ∉ l→qV (fun x => !(c==x)) l i = -1
 | [],_,_,_=>rfl
 | x :: r,i,hi,h=>by
  simp only [List.mem_cons,not_or] at h
  unfold qV
  rw [beqF h.1]
  exact qwe c r (i+1) (by omega) h.2
theorem qIy {c:Int} (h:c ∉ z186) (hc:c < 0∨256≤c):z207 c=(0,false):=by
 unfold z207 z233
 rw [qwe c _ 0 (by omega) h,show ((decide (0≤c)&&decide (c < 128))||(decide (160≤c)&&decide (c < 256)))=false by simp; omega]
 cases decide (c < 256) <;> rfl
theorem qpk (c:Int):((z207 c).2=true→z65 (z207 c).1=c∧c≠65533)∧((z207 c).2=false→(z207 c).1=0):=by
 by_cases hc:c < 0∨256≤c
 ·by_cases h:c∈z186
  ·by_cases h0:c < 0
   ·have:∀ c∈z186,0≤c:=by decide +kernel
    have:=this c h
    omega
   ·have:=win_C c h (by omega)
    exact ⟨fun _=>this.2,fun e=>by rw [this.1] at e; cases e⟩
  ·rw [qIy h hc]; exact ⟨(fun e=>by cases e),fun _=>rfl⟩
 ·have hb:=win_B ⟨c.toNat,by omega⟩
  simp only [Int.toNat_of_nonneg (show 0≤c by omega)] at hb
  exact ⟨fun e=>⟨hb.1 e,by omega⟩,hb.2⟩
theorem qzP:∀ (c0:Int),∃ n,qoZ n c0=qgy (z170 c0).1 (z170 c0).2:=fun c=>⟨257,by
 unfold qoZ z170
 refine qmM (sign:=z65) (put:=z207) (L:=fun n i=>qgz qgy (qdx 257) n c i) (fun n i hi=>?_) (fun n=>rfl) (fun i hi h1 h2=>?_) (qpk c).1 (qpk c).2 256 0 257 (by omega) (by omega) (fun j hj=>by omega)
 ·show qfa _ _ _ n _ _=_
  unfold qfa
  simp (disch:=omega) only [dT,cond_true,qr,qwd]
 ·have:=win_A ⟨i,hi⟩
  rw [← h1] at h2 ⊢
  exact this h2⟩
theorem qaf {α β:Type} (g:α→β):∀ l:List α,l.flatMap (fun x=>[g x])=l.map g
 | []=>rfl
 | x :: r=>by rw [List.flatMap_cons,qaf g r]; rfl
theorem qzQ:∀ (charset0:Int) (c1:Int),∃ n,quK n charset0 c1=qby (z157 charset0 c1):=fun cs c=>⟨0,by
 unfold quK z157
 cases (cs==(1:Int)) <;> cases (cs==(2:Int)) <;> cases (cs==(3:Int)) <;> cases (cs==(4:Int)) <;> cases (cs==(5:Int)) <;> cases decide ((0:Int)≤c) <;> rfl⟩
theorem qzR:∀ (charset0:Int) (c1:Int),∃ n,qvL n charset0 c1=qbB (z167 charset0 c1):=fun cs c=>⟨0,by
 unfold qvL z167
 cases (cs==(1:Int)) <;> cases (cs==(2:Int)) <;> cases (cs==(3:Int)) <;> cases (cs==(4:Int)) <;> cases (cs==(5:Int)) <;> cases decide ((0:Int)≤c) <;> rfl⟩
theorem qzS:∀ (charset0:Int),∃ n,quA n charset0=qaN (z161 charset0):=fun cs=>⟨0,by
 unfold quA z161
 by_cases h:cs=2
 ·subst h; rfl
 ·rw [beqF h]
  cases (cs==(1:Int)) <;> cases (cs==(3:Int)) <;> cases (cs==(4:Int)) <;> cases (cs==(5:Int)) <;> rfl⟩
theorem qzT:∀ (charset0:Int) (t1:List Int),(qpB charset0 t1=true)→∃ n,quL n charset0 t1=qmp (z162 charset0 t1):=fun cs t h=>⟨0,by
 unfold quL z162
 rw [show qpA cs t=true from h]
 cases decide (0 < z161 cs) <;> rfl⟩
theorem qzU:∀ (t0:List Int),(qpx t0=true)→∃ n,qoI n t0=qdX (z164 t0).1 (z164 t0).2:=fun t h=>⟨t.length+1,by
 have hl:=qn (l:=t) h
 unfold qoI z164
 have:=qep (t:=t) (dv:=0) (f:=fun c=>[(z205 c).1]) (q:=z197) (b:=1) (k0:=qbS (t.length+1)) (R:=qdX [] 9)
  (L:=fun n out i=>qgg qdX (qbS (t.length+1)) n out t ((t.length:Nat):Int) i) (fun x=>by simp) (fun n i out hi hb=>by
   show qbR _ _ _ n _ _ _ _=_
   unfold qbR
   simp (disch:=omega) only [dT,cond_true,Bool.and_true,tn,qr,List.length_cons,List.length_nil,Nat.zero_add]
   show (bif !(z197 (t.getD i 0)) then _ else _)=_
   cases z197 (t.getD i 0) <;> rfl) (fun n out=>by
   show qbR _ _ _ n _ _ _ _=_
   unfold qbR
   rw [dF (by omega)]
   rfl) t.length 0 (t.length+1) [] (by omega) (by omega) (by unfold room; simp; omega)
 refine this.trans ?_
 rw [List.drop_zero,qaf]
 cases t.all z197 <;> rfl⟩
theorem qzV:∀ (t0:List Int),(qpy t0=true)→∃ n,qoK n t0=qmr (z165 t0).1 (z165 t0).2:=fun t h=>⟨t.length+1,by
 have hl:=qn (l:=t) h
 unfold qoK z165
 rw [show qpu t=true from h]
 cases decide (0≤z206 t) with
 | true=>rfl
 | false =>
  have:=qep (t:=t) (dv:=0) (f:=fun c=>[(z207 c).1]) (q:=fun _=>true) (b:=1) (k0:=qbV (t.length+1)) (R:=none)
   (L:=fun n out i=>qgj (qbV (t.length+1)) n out t ((t.length:Nat):Int) i) (fun x=>by simp) (fun n i out hi hb=>by
    show qbU _ _ n _ _ _ _=_
    unfold qbU
    simp (disch:=omega) only [dT,cond_true,Bool.and_true,tn,qr,List.length_cons,List.length_nil,Nat.zero_add]) (fun n out=>by
    show qbU _ _ n _ _ _ _=_
    unfold qbU
    rw [dF (by omega)]
    rfl) t.length 0 (t.length+1) [] (by omega) (by omega) (by unfold room; simp; omega)
  simp (disch:=(first | omega | (unfold room; omega))) only [dT,cond_true,cond_false,Bool.and_true]
  refine this.trans ?_
  rw [List.drop_zero,qaf,List.all_eq_true.2 (fun _ _=>rfl)]
  rfl⟩
theorem qpl (c:Int):(z204 [] c).1.length≤4:=by
 unfold z204
 rcases qkL c with e | e | e | e | e <;> rw [e] <;> simp
theorem qzW:∀ (t0:List Int),(qpz t0=true)→∃ n,qoH n t0=qmq (z163 t0).1 (z163 t0).2:=fun t h=>⟨t.length+1,by
 have hl:=qn (l:=t) h
 unfold qoH z163
 rw [show qps t=true from h]
 cases !(z203 t) with
 | true=>rfl
 | false =>
  have:=qep (t:=t) (dv:=0) (f:=fun c=>(z204 [] c).1) (q:=fun _=>true) (b:=4) (k0:=qbQ (t.length+1)) (R:=none)
   (L:=fun n out i=>qgf (qbQ (t.length+1)) n out t ((t.length:Nat):Int) i) qpl (fun n i out hi hb=>by
    show qbP _ _ n _ _ _ _=_
    unfold qbP
    have hp:=qpl (t.getD i 0)
    rw [show qpt ([]:List UInt8) (t.getD (Int.toNat (i:Int)) 0)=true from rfl]
    simp (disch:=omega) only [dT,cond_true,Bool.and_true,tn,qr]) (fun n out=>by
    show qbP _ _ n _ _ _ _=_
    unfold qbP
    rw [dF (by omega)]
    rfl) t.length 0 (t.length+1) [] (by omega) (by omega) (by unfold room; simp; omega)
  simp only [cond_true,cond_false,Bool.and_true]
  refine this.trans ?_
  rw [List.drop_zero,List.all_eq_true.2 (fun _ _=>rfl)]
  rfl⟩
theorem qzX:∀ (charset0:Int) (t1:List Int),(qho charset0 t1=true)→∃ n,quU n charset0 t1=qcx (z120 charset0 t1).1 (z120 charset0 t1).2:=fun cs t h=>⟨0,by
 unfold quU z120
 rw [show qpB cs t=true from h,show qpz t=true from h,show qpx t=true from h,show qpy t=true from h,show qpw t=true from h]
 cases (z161 cs==0) <;> cases z162 cs t <;> cases (cs==(5:Int)) <;> cases (cs==(3:Int)) <;> cases (cs==(4:Int)) <;> rfl⟩
theorem qzY:∀ (charset0:Int) (c1:Int),∃ n,qvN n charset0 c1=qcD (z121 charset0 c1):=fun cs c=>⟨0,by
 unfold qvN z121
 cases z167 cs c <;> cases (cs==(1:Int)) <;> cases (cs==(2:Int)) <;> cases (cs==(3:Int)) <;> cases (cs==(4:Int)) <;> rfl⟩
theorem qzZ (c:Int):(z171 c).length≤4:=by
 unfold z171
 cases z209 c <;> cases decide (c < (128:Int)) <;> cases decide (c < (2048:Int)) <;> cases decide (c < (65536:Int)) <;> simp
theorem qgG (cs c:Int):(z121 cs c).length≤4:=by
 unfold z121
 have:=qzZ c
 cases z167 cs c <;> cases (cs==(1:Int)) <;> cases (cs==(2:Int)) <;> cases (cs==(3:Int)) <;> cases (cs==(4:Int)) <;> simp [this]
theorem qDz:∀ (charset0:Int) (t1:List Int),(qAw charset0 t1=true)→∃ n,qyQ n charset0 t1=qeC (z76 charset0 t1).1 (z76 charset0 t1).2:=fun cs t h=>⟨t.length+1,by
 have hl:=qn (l:=t) h
 unfold qyQ z76
 cases decide (cs < 1) <;> cases decide (5 < cs)
 ·have:=qep (t:=t) (dv:=0) (f:=z121 cs) (q:=fun c=>(z121 cs c).length != 0) (b:=4) (k0:=qel (t.length+1)) (R:=qeC [] 9)
   (L:=fun n out i=>qmG qeC (qel (t.length+1)) n cs t out i) (qgG cs) (fun n i out hi hb=>by
    show qek _ _ _ n _ _ _ _=_
    unfold qek
    have hp:=qgG cs (t.getD i 0)
    simp (disch:=omega) only [dT,cond_true,Bool.and_true,tn,qr]
    rw [show ((((z121 cs (t.getD i 0)).length:Nat):Int)==0) = !((z121 cs (t.getD i 0)).length != 0) from by
     cases (z121 cs (t.getD i 0)).length <;> rfl]
    cases (z121 cs (t.getD i 0)).length != 0 <;> rfl) (fun n out=>by
    show qek _ _ _ n _ _ _ _=_
    unfold qek
    rw [dF (by omega)]
    rfl) t.length 0 (t.length+1) [] (by omega) (by omega) (by unfold room; simp; omega)
  refine this.trans ?_
  rw [List.drop_zero]
  simp only [Bool.or_self,cond_false,List.nil_append]
  cases t.all (fun c=>(z121 cs c).length != 0) <;> rfl
 ·rfl
 ·rfl
 ·rfl⟩
theorem qpm:∀ s:List UInt8,(z50 s).length=qLen s
 | []=>rfl
 | c :: r=>by
  have h:=qpm r
  unfold z50 qLen at h ⊢
  rw [List.flatMap_cons,List.length_append,h,qdB]
  rfl
def bLen (n:Nat):Nat:=4*((n+2) / 3)
theorem qAa (s:List UInt8):(z49 s).length=bLen s.length:=by
 unfold z49 padTo bLen
 rw [List.length_append,List.length_replicate,qvX]
 unfold qL
 omega
theorem qDA (n:Nat) (h:n≤100000000):z87 (n:Int)=(bLen n:Int):=by
 unfold z87 bLen
 by_cases h0:n=0
 ·subst h0; rfl
 ·rw [dF (by omega),cond_false,IntWalk.i64_in ((n:Int) - 1) (by omega),Int.tdiv_eq_ediv_of_nonneg (by omega),IntWalk.i64_in (((n:Int) - 1) / 3) (by omega),IntWalk.i64_in (((n:Int) - 1) / 3*4) (by omega),IntWalk.i64_in _ (by omega)]
  omega
theorem qgH {α β:Type} {f:α→List β} {b:Nat} (hf:∀ x,(f x).length≤b):∀ l:List α,(l.flatMap f).length≤b*l.length
 | []=>by simp
 | x :: r=>by
  have h1:=qgH hf r
  have h2:=hf x
  rw [List.flatMap_cons,List.length_append,List.length_cons,Nat.mul_succ]
  omega
theorem qAb (cs:Int) (t:List Int) (hl:t.length≤1048576):(z120 cs t).1.length≤4194304:=by
 have h1:(z163 t).1.length≤4194304:=by
  unfold z163
  have:=qgH qpl t
  cases !(z203 t) with
  | true=>exact Nat.zero_le _
  | false=>show (t.flatMap fun c=>(z204 [] c).1).length≤_; omega
 have h2:(z164 t).1.length≤4194304:=by
  unfold z164
  cases t.all z197 <;> simp <;> omega
 have h3:(z165 t).1.length≤4194304:=by
  unfold z165
  cases decide (0≤z206 t) <;> simp <;> omega
 have h4:(z166 t).1.length≤4194304:=by
  unfold z166
  cases z208 t != -1 <;> simp <;> omega
 unfold z120
 cases (z161 cs==0) <;> cases z162 cs t <;> cases (cs==(5:Int)) <;> cases (cs==(3:Int)) <;> cases (cs==(4:Int)) <;> first | exact Nat.zero_le _ | assumption
theorem qfb (cs:Int) (t:List Int) (hl:t.length≤1048576):(z76 cs t).1.length≤4194304:=by
 have h1:=qgH (qgG cs) t
 unfold z76
 cases (decide (cs < 1)||decide (5 < cs)) <;> cases t.all (fun c=>(z121 cs c).length != 0) <;> first | exact Nat.zero_le _ | (show (t.flatMap (z121 cs)).length≤_; omega)
theorem qAc:∀ (code0:Int),∃ n r,qAZ n code0=some r∧Picks (z155 code0) r:=fun code=>by
 by_cases h1:code=1
 ·subst h1; exact ⟨0,_,rfl,fun _=>rfl,fun h=>by cases h⟩
 ·by_cases h2:code=2
  ·subst h2; exact ⟨0,_,rfl,(fun h=>by cases h),fun _=>⟨fun _=>rfl,fun h=>by cases h⟩⟩
  ·refine ⟨0,.nilIface,?_,?_,?_⟩
   ·show (bif code==1 then _ else bif code==2 then _ else _)=_
    rw [beqF h1,beqF h2]; rfl
   ·intro h; rw [beqF h1] at h; cases h
   ·intro _
    refine ⟨?_,fun _=>rfl⟩
    intro h; rw [beqF h2] at h; cases h
theorem qAd:∀ (x0:Unit),∃ n,qAX n x0=qvc (z194 x0):=fun _=>⟨0,rfl⟩
theorem qAe:∀ (x0:Unit),∃ n,qAY n x0=qvd (z195 x0):=fun _=>⟨0,rfl⟩
theorem qmP:∀ (s1:List UInt8),∃ n,qkB n s1=qhh (z87 ((List.length s1:Nat):Int)) true:=fun _=>⟨0,rfl⟩
theorem qmQ:∀ (s1:List UInt8),qey s1=true→∃ n,qgn n s1=qhi (z83 s1) true:=fun s h=>⟨0,by
 unfold qgn
 rw [show qgT s=true from h]
 rfl⟩
theorem qmR:∀ (s1:List UInt8),∃ n,qkC n s1=qhj 0 false:=fun _=>⟨0,rfl⟩
theorem qkN {s:List UInt8} (h:s.length≤4194304):qey s=true:=by
 unfold qey qgT; exact dT h
theorem qAf:∀ (charset0:Int) (code1:Int) (t2:List Int),(qez charset0 code1 t2=true)→∃ n,qve n charset0 code1 t2=qaz (z112 charset0 code1 t2).1 (z112 charset0 code1 t2).2:=fun cs code t h=>⟨0,by
 have hl:=qn (l:=t) h
 unfold qve z112
 rw [show qho cs t=true from h,qkN (qAb cs t hl)]
 by_cases h0:(z120 cs t).2=10
 ·rw [h0]; rfl
 ·rw [beqF h0]
  by_cases h1:code=1
  ·subst h1
   cases (z120 cs t).2 != 0 <;> rfl
  ·by_cases h2:code=2
   ·subst h2
    cases (z120 cs t).2 != 0 <;> rfl
   ·rw [beqF h1,beqF h2,bneT h1,bneT h2]
    rfl⟩
theorem qDB:∀ (charset0:Int) (code1:Int) (t2:List Int),(qqN charset0 code1 t2=true)→∃ n,qCC n charset0 code1 t2=qvf (z66 charset0 code1 t2).1 (z66 charset0 code1 t2).2:=fun cs code t h=>⟨0,by
 unfold qCC z66
 rw [show qez cs code t=true from h]
 cases (z112 cs code t).2 != 0 <;> rfl⟩
theorem qAg:∀ (charset0:Int) (code1:Int) (t2:List Int),(qhc charset0 code1 t2=true)→∃ n,qvo n charset0 code1 t2=qvn (z159 charset0 code1 t2):=fun cs code t h=>⟨0,by
 unfold qvo z159
 rw [show qez cs code t=true from h]
 rfl⟩
theorem qAh:∀ (charset0:Int) (t1:List Int),(qon charset0 t1=true)→∃ n,qvq n charset0 t1=qvp (z118 charset0 t1):=fun cs t h=>⟨0,by
 unfold qvq z118
 rw [show qhc cs 1 t=true from h,show qhc cs 2 t=true from h]
 rfl⟩
theorem qDC:∀ (charset0:Int) (t1:List Int),(qyk charset0 t1=true)→∃ n,qCE n charset0 t1=qoR (z72 charset0 t1).1 (z72 charset0 t1).2:=fun cs t h=>⟨0,by
 unfold qCE z72
 rw [show qez cs 1 t=true from h,show qon cs t=true from h]
 cases (z112 cs 1 t).2 != 0 <;> cases decide (0≤z118 cs t) <;> rfl⟩
theorem qAi:∀ (charset0:Int) (code1:Int) (t2:List Int) (room3:Int),(qoo charset0 code1 t2 room3=true)→∃ n,qvg n charset0 code1 t2 room3=qiY (z156 charset0 code1 t2 room3):=fun cs code t room h=>⟨0,by
 unfold qvg z156
 rw [show qqN cs code t=true from h]
 cases ((z66 cs code t).2==0) <;> cases decide ((0:Int) < ((List.length t:Nat):Int)) <;> rfl⟩
theorem qBh {t:List Int} (h:lenOk t=true) (n:Nat):lenOk (t.take n)=true:=qaO (by rw [List.length_take]; have:=qn h; omega)
theorem qhl (k0:Int→Option AV) (cs code:Int) (t:List Int) (rm:Int) (h:lenOk t=true):∀ (d i n:Nat),i+d=t.length→d < n →
 qgo k0 n cs code t rm (i:Nat)=k0 ((qp (fun u=>z156 cs code u rm) t d i:Nat):Int)
 | d,i,0,hi,hn=>by omega
 | 0,i,n+1,hi,hn=>by
  show qbZ _ _ n _ _ _ _ _=_
  unfold qbZ
  rw [dF (by omega)]
  rfl
 | d+1,i,n+1,hi,hn=>by
  have hl:=qn h
  show qbZ _ _ n _ _ _ _ _=_
  unfold qbZ
  rw [qr (by omega),qhl k0 cs code t rm h d (i+1) n (by omega) (by omega),show Int.toNat ((0:Nat):Int)=0 from rfl,List.drop_zero,tn,
   show qoo cs code (t.take (i+1)) rm=true from qBh h _]
  simp (disch:=omega) only [dT,cond_true,Bool.and_true]
  rw [show qp (fun u=>z156 cs code u rm) t (d+1) i=bif z156 cs code (t.take (i+1)) rm then qp (fun u=>z156 cs code u rm) t d (i+1) else i from rfl]
  show (bif z156 cs code (t.take (i+1)) rm then _ else _)=k0 ((bif z156 cs code (t.take (i+1)) rm then _ else _:Nat):Int)
  cases z156 cs code (t.take (i+1)) rm <;> rfl
theorem qAj:∀ (charset0:Int) (code1:Int) (t2:List Int) (room3:Int),(qop charset0 code1 t2 room3=true)→∃ n,qoO n charset0 code1 t2 room3=qvh (z114 charset0 code1 t2 room3):=fun cs code t rm h=>⟨t.length+1,by
 unfold qoO z114
 exact qhl (qdn (t.length+1)) cs code t rm h t.length 0 (t.length+1) (by omega) (by omega)⟩
theorem qDD:∀ (charset0:Int) (code1:Int) (t2:List Int),(qgR charset0 code1 t2=true)→∃ n,qCS n charset0 code1 t2=qdy (z69 charset0 code1 t2).1 (z69 charset0 code1 t2).2:=fun cs code t h=>⟨0,by
 have hl:=qn (l:=t) h
 have hc:=qfb cs t hl
 unfold qCS z69
 rw [show qAw cs t=true from h,show qrd (z76 cs t).1=true from dT hc,show qrc (z76 cs t).1=true from dT hc]
 by_cases h0:(z76 cs t).2=10
 ·rw [h0]; rfl
 ·rw [beqF h0]
  by_cases h1:code=1
  ·subst h1
   cases (z76 cs t).2 != 0 <;> rfl
  ·by_cases h2:code=2
   ·subst h2
    cases (z76 cs t).2 != 0 <;> rfl
   ·rw [bneT h1,bneT h2]
    rfl⟩
theorem qDE:∀ (charset0:Int) (t1:List Int),(qyl charset0 t1=true)→∃ n,qCT n charset0 t1=qpb (z74 charset0 t1).1 (z74 charset0 t1).2:=fun cs t h=>⟨0,by
 unfold qCT z74
 rw [show qgR cs 1 t=true from h,show qgR cs 2 t=true from h]
 cases (z69 cs 1 t).2 != 0 <;> cases decide ((z69 cs 2 t).1≤(z69 cs 1 t).1) <;> rfl⟩
theorem qAk:∀ (charset0:Int) (code1:Int) (t2:List Int) (room3:Int),(qoq charset0 code1 t2 room3=true)→∃ n,qvO n charset0 code1 t2 room3=qgA (z115 charset0 code1 t2 room3):=fun cs code t rm h=>⟨0,by
 unfold qvO z115
 rw [show qgR cs code t=true from h]
 cases ((z69 cs code t).2==0) <;> cases decide ((0:Int) < ((List.length t:Nat):Int)) <;> cases decide ((z69 cs code t).1≤rm) <;> rfl⟩
theorem qeD (k0:List Int→Option AV) (ret:Int→Option AV) (cs code:Int) (t:List Int) (rm:Int) (h:lenOk t=true) (hk:k0 t=ret ((t.length:Nat):Int)):∀ (d i n:Nat),i+d=t.length→d < n →
 qmH ret k0 n cs code t rm ((i+1:Nat):Int)=ret ((qp (fun u=>z115 cs code u rm) t d i:Nat):Int)
 | d,i,0,hi,hn=>by omega
 | 0,i,n+1,hi,hn=>by
  show qem _ _ _ n _ _ _ _ _=_
  unfold qem
  rw [dF (by omega),cond_false,hk]
  unfold qp
  congr 1; omega
 | d+1,i,n+1,hi,hn=>by
  have hl:=qn h
  show qem _ _ _ n _ _ _ _ _=_
  unfold qem
  rw [qr (by omega),qeD k0 ret cs code t rm h hk d (i+1) n (by omega) (by omega),show Int.toNat ((0:Nat):Int)=0 from rfl,List.drop_zero,tn,
   show qoq cs code (t.take (i+1)) rm=true from qBh h _,show IntKind.wrap .i64 (((i+1:Nat):Int) - 1)=(i:Int) from by rw [IntWalk.i64_in _ (by omega)]; omega]
  simp (disch:=omega) only [dT,cond_true,Bool.and_true]
  rw [show qp (fun u=>z115 cs code u rm) t (d+1) i=bif z115 cs code (t.take (i+1)) rm then qp (fun u=>z115 cs code u rm) t d (i+1) else i from rfl]
  show (bif !(z115 cs code (t.take (i+1)) rm) then _ else _)=ret ((bif z115 cs code (t.take (i+1)) rm then _ else _:Nat):Int)
  cases z115 cs code (t.take (i+1)) rm <;> rfl
theorem qDF:∀ (charset0:Int) (code1:Int) (t2:List Int) (room3:Int),(qym charset0 code1 t2 room3=true)→∃ n,qyR n charset0 code1 t2 room3=qkH (z70 charset0 code1 t2 room3):=fun cs code t rm h=>⟨t.length+1,by
 unfold qyR z70
 exact qeD (qgB (t.length+1)) qkH cs code t rm h rfl t.length 0 (t.length+1) (by omega) (by omega)⟩
theorem qcF {t:List Int} (h:i32s t=true) {c:Int} (hc:c∈t) : -2147483648≤c∧c≤2147483647:=by
 unfold i32s at h
 rw [List.all_eq_true] at h
 simpa using h c hc
theorem qIz {c:Int} (h : -2147483648≤c∧c≤2147483647):IntKind.wrap .u32 c=if 0≤c then c else c+4294967296:=by
 by_cases h0:0≤c
 ·rw [if_pos h0,IntWalk.u32_in c (by omega)]
 ·rw [if_neg h0]
  have:IntKind.wrap .u32 c=c % 4294967296:=rfl
  rw [this]; omega
theorem qjh {c:Int} (h : -2147483648≤c∧c≤2147483647):z199 c=z209 c:=by
 unfold z199 z209
 rw [show z234 c=z230 c from rfl,← Bool.and_assoc,qIz h]
 congr 1
 rw [Bool.eq_iff_iff]
 simp only [Bool.and_eq_true,decide_eq_true_eq]
 split <;> omega
theorem qmS {c:Int} (h : -2147483648≤c∧c≤2147483647):z196 c=(z168 c).2:=by
 unfold z196 z168
 rw [qIz h]
 have:decide ((if 0≤c then c else c+4294967296) < 256)=(decide (0≤c)&&decide (c < 256)):=by
  rw [Bool.eq_iff_iff]
  simp only [Bool.and_eq_true,decide_eq_true_eq]
  split <;> omega
 rw [this]
 cases (decide (0≤c)&&decide (c < 256)) <;> rfl
theorem qDG (cs:Int) {c:Int} (h : -2147483648≤c∧c≤2147483647):z157 cs c=z167 cs c:=by
 unfold z157 z167
 rw [qmS h,qjh h]
 rfl
theorem qmT (p:Int→Bool):∀ (t:List Int) (i:Int),0≤i→(qV p t i = -1∧t.all p=true)∨(0≤qV p t i∧t.all p=false)
 | [],_,_=>.inl ⟨rfl,rfl⟩
 | x :: r,i,hi=>by
  rw [show qV p (x :: r) i=bif p x then qV p r (i+1) else i from rfl,List.all_cons]
  cases p x with
  | true=>simpa using qmT p r (i+1) (by omega)
  | false=>exact .inr ⟨hi,rfl⟩
theorem qmU (p:Int→Bool) (t:List Int):(qV p t 0 == -1)=t.all p:=by
 rcases qmT p t 0 (by omega) with ⟨h1,h2⟩ | ⟨h1,h2⟩
 ·rw [h1,h2]; rfl
 ·rw [h2,beqF (by omega)]
theorem qwf (p:Int→Bool) (t:List Int):(qV p t 0 != -1) = !(t.all p):=by rw [← qmU]; rfl
theorem qIA (p:Int→Bool) (t:List Int):decide (0≤qV p t 0) = !(t.all p):=by
 rcases qmT p t 0 (by omega) with ⟨h1,h2⟩ | ⟨h1,h2⟩
 ·rw [h1,h2]; rfl
 ·rw [h2,dT h1]; rfl
theorem qwg {p q:Int→Bool} {t:List Int} (h:∀ c∈t,p c=q c):t.all p=t.all q:=by
 rw [Bool.eq_iff_iff,List.all_eq_true,List.all_eq_true]
 exact ⟨fun k c hc=>by rw [← h c hc]; exact k c hc,fun k c hc=>by rw [h c hc]; exact k c hc⟩
theorem qaS {f g:Int→List UInt8}:∀ {t:List Int},(∀ c∈t,f c=g c)→t.flatMap f=t.flatMap g
 | [],_=>rfl
 | x :: r,h=>by rw [List.flatMap_cons,List.flatMap_cons,h x (by simp),qaS fun c hc=>h c (by simp [hc])]
theorem lead2:∀ i:Fin 32,(192:UInt8) ||| oct8 ((i.val:Nat):Int)=oct8 (192+((i.val:Nat):Int)):=by decide +kernel
theorem lead3:∀ i:Fin 16,(224:UInt8) ||| oct8 ((i.val:Nat):Int)=oct8 (224+((i.val:Nat):Int)):=by decide +kernel
theorem lead4:∀ i:Fin 8,(240:UInt8) ||| oct8 ((i.val:Nat):Int)=oct8 (240+((i.val:Nat):Int)):=by decide +kernel
theorem qwh:∀ i:Fin 256,foll ((i.val:Nat):Int)=oct8 (128+((i.val:Nat):Int) % 64):=by decide +kernel
theorem qDH (n:Int):oct8 n=oct8 (n % 256):=by
 unfold oct8
 have:IntKind.wrap .u8 n=n % 256:=rfl
 have h2:IntKind.wrap .u8 (n % 256)=n % 256 % 256:=rfl
 rw [this,h2]; congr 1; congr 1; omega
theorem qIB (n:Int):foll n=oct8 (128+n % 64):=by
 have h:=qwh ⟨(n % 256).toNat,by omega⟩
 simp only [Int.toNat_of_nonneg (show 0≤n % 256 by omega)] at h
 rw [show n % 256 % 64=n % 64 by omega] at h
 rw [← h]
 unfold foll
 rw [← qDH]
theorem qLd {c:Int} (h:z209 c=true) (h32 : -2147483648≤c∧c≤2147483647):(z204 [] c).1=z171 c:=by
 have hs:=(qjh h32).trans h
 have hr:0≤c∧c≤1114111:=by
  unfold z209 at h
  simp only [Bool.and_eq_true,decide_eq_true_eq] at h
  exact ⟨h.1,h.2.1⟩
 unfold z204 z232 z171
 rw [hs,h]
 simp only [Bool.not_true,cond_false,qIB,Int.fdiv_eq_ediv_of_nonneg _ (show (0:Int)≤2 ^ 18 by decide),Int.fdiv_eq_ediv_of_nonneg _ (show (0:Int)≤2 ^ 12 by decide),Int.fdiv_eq_ediv_of_nonneg _ (show (0:Int)≤2 ^ 6 by decide),Int.fdiv_eq_ediv_of_nonneg _ (show (0:Int)≤2 ^ 0 by decide)]
 rw [show (2:Int) ^ 18=262144 from rfl,show (2:Int) ^ 12=4096 from rfl,show (2:Int) ^ 6=64 from rfl,show (2:Int) ^ 0=1 from rfl,Int.ediv_one]
 by_cases h1:c < 128
 ·rw [dT h1]
  show [(0:UInt8) ||| oct8 c]=[oct8 c]
  rw [UInt8.zero_or]
 ·rw [dF h1]
  by_cases h2:c < 2048
  ·rw [dT h2]
   have:=lead2 ⟨(c / 64).toNat,by omega⟩
   simp only [Int.toNat_of_nonneg (show 0≤c / 64 by omega)] at this
   show [(192:UInt8) ||| oct8 (c / 64),oct8 (128+c % 64)]=_
   rw [this]; rfl
  ·rw [dF h2]
   by_cases h3:c < 65536
   ·rw [dT h3]
    have:=lead3 ⟨(c / 4096).toNat,by omega⟩
    simp only [Int.toNat_of_nonneg (show 0≤c / 4096 by omega)] at this
    show [(224:UInt8) ||| oct8 (c / 4096),oct8 (128+c / 64 % 64),oct8 (128+c % 64)]=_
    rw [this]; rfl
   ·rw [dF h3]
    have:=lead4 ⟨(c / 262144).toNat,by omega⟩
    simp only [Int.toNat_of_nonneg (show 0≤c / 262144 by omega)] at this
    show [(240:UInt8) ||| oct8 (c / 262144),oct8 (128+c / 4096 % 64),oct8 (128+c / 64 % 64),oct8 (128+c % 64)]=_
    rw [this]; rfl
theorem qpn {cs c:Int} (h:cs=1∨cs=2∨cs=3∨cs=4∨cs=5):((z121 cs c).length != 0)=z167 cs c:=by
 unfold z121
 cases hh:z167 cs c with
 | false=>rfl
 | true =>
  rcases h with rfl | rfl | rfl | rfl | rfl
  ·rfl
  ·rfl
  ·rfl
  ·rfl
  ·have h3:z209 c=true:=hh
   show ((z171 c).length != 0)=true
   unfold z171
   rw [h3]
   cases decide (c < (128:Int)) <;> cases decide (c < (2048:Int)) <;> cases decide (c < (65536:Int)) <;> rfl
theorem qIC {cs:Int} (h:cs=1∨cs=2∨cs=3∨cs=4∨cs=5):0 < z161 cs:=by
 rcases h with rfl | rfl | rfl | rfl | rfl <;> decide
theorem qLe (cs:Int) (t:List Int) (h:i32s t=true):z120 cs t=z76 cs t:=by
 by_cases hcs:cs=1∨cs=2∨cs=3∨cs=4∨cs=5
 ·have hsz:=qIC hcs
  unfold z120 z76 z162 z202
  rw [beqF (show z161 cs≠0 by omega),dT hsz,qmU,dF (show ¬ cs < 1 by omega),dF (show ¬ 5 < cs by omega),qwg (q:=z167 cs) (fun c hc=>qDG cs (qcF h hc)),qwg (p:=fun c=>(z121 cs c).length != 0) (q:=z167 cs) (fun c _=>qpn hcs)]
  cases ha:t.all (z167 cs) with
  | false=>rfl
  | true =>
   rw [List.all_eq_true] at ha
   show (bif cs==5 then z163 t else _)=(t.flatMap (z121 cs),0)
   rcases hcs with rfl | rfl | rfl | rfl | rfl
   ·show z166 t=_
    have h2:t.all z196=true:=List.all_eq_true.2 fun c hc=>by
     have:=ha c hc
     rw [qmS (qcF h hc)]
     unfold z168
     have h3:(decide (0≤c)&&decide (c < 128))=true:=this
     simp only [Bool.and_eq_true,decide_eq_true_eq] at h3
     rw [dT h3.1,dT (show c < 256 by omega)]; rfl
    unfold z166 z208
    rw [qwf,h2]
    show (t.map _,(0:Int))=_
    rw [← qaf]
    congr 1
    exact qaS fun c hc=>by
     unfold z121
     rw [ha c hc]; rfl
   ·show z166 t=_
    have h2:t.all z196=true:=List.all_eq_true.2 fun c hc=>by rw [qmS (qcF h hc)]; exact ha c hc
    unfold z166 z208
    rw [qwf,h2]
    show (t.map _,(0:Int))=_
    rw [← qaf]
    congr 1
    exact qaS fun c hc=>by
     have h3:(z168 c).2=true:=ha c hc
     unfold z121
     rw [ha c hc]
     show _=[(z168 c).1]
     unfold z168 at h3 ⊢
     cases h4:(decide (0≤c)&&decide (c < 256)) with
     | false=>rw [h4] at h3; cases h3
     | true =>
      simp only [Bool.and_eq_true,decide_eq_true_eq] at h4
      rw [IntWalk.u8_in c (by omega)]; rfl
   ·show z164 t=_
    unfold z164
    rw [show t.all z197=true from List.all_eq_true.2 ha]
    show (t.map _,(0:Int))=_
    rw [← qaf]
    congr 1
    exact qaS fun c hc=>by
     unfold z121
     rw [ha c hc]; rfl
   ·show z165 t=_
    unfold z165 z206
    rw [qIA,show t.all z198=true from List.all_eq_true.2 ha]
    show (t.map _,(0:Int))=_
    rw [← qaf]
    congr 1
    exact qaS fun c hc=>by
     unfold z121
     rw [ha c hc]; rfl
   ·show z163 t=_
    unfold z163 z203
    rw [qmU,show t.all z199=true from List.all_eq_true.2 fun c hc=>(qjh (qcF h hc)).trans (ha c hc)]
    show (t.flatMap _,(0:Int))=_
    congr 1
    exact qaS fun c hc=>by
     have h3:z209 c=true:=ha c hc
     unfold z121
     rw [ha c hc,qLd h3 (qcF h hc)]; rfl
 ·simp only [not_or] at hcs
  obtain ⟨h1,h2,h3,h4,h5⟩:=hcs
  unfold z120 z76 z161
  simp only [beqF h1,beqF h2,beqF h3,beqF h4,beqF h5,cond_false]
  rw [show (decide (cs < 1)||decide (5 < cs))=true by simp; omega]
  rfl
theorem qgI (cs:Int):0≤z17 cs∧z17 cs≤19:=by
 unfold z17
 have:=qjg cs
 cases z44 cs
 ·show 0≤(0:Int)∧(0:Int)≤19; constructor <;> decide
 ·show 0≤(((z89 cs).length+7:Nat):Int)∧(((z89 cs).length+7:Nat):Int)≤19
  omega
def qhm (code:Int) (s:List UInt8):Nat:=bif code==1 then bLen s.length else qLen s
theorem qkO (code:Int) (s:List UInt8):qhm code s≤4*s.length+4:=by
 unfold qhm bLen
 have:=qph s
 cases (code==1)
 ·show qLen s≤_; omega
 ·show 4*((s.length+2) / 3)≤_; omega
def told (cs code:Int) (t:List Int):Int×Int :=
 bif (z76 cs t).2==10 then (0,10) else bif (code != 1)&&(code != 2) then (0,3) else bif (z76 cs t).2 != 0 then (0,(z76 cs t).2)
 else ((qhm code (z76 cs t).1:Nat),0)
theorem qji (cs code:Int) (t:List Int) (h:i32s t=true) (hl:t.length≤1048576):z112 cs code t=told cs code t:=by
 have h1:=qfb cs t hl
 unfold z112 told qhm
 rw [qLe cs t h,qDA _ (by omega)]
 cases (code==1) <;> rfl
theorem qDI (cs code:Int) (t:List Int):(told cs code t).2≠0→(told cs code t).1=0:=by
 unfold told
 cases ((z76 cs t).2==10) <;> cases ((code != 1)&&(code != 2)) <;> cases ((z76 cs t).2 != 0) <;> simp
theorem qID {cs code:Int} {t:List Int} (h:(told cs code t).2=0):(z76 cs t).2=0∧(code=1∨code=2)∧(told cs code t).1=(qhm code (z76 cs t).1:Nat):=by
 unfold told at h ⊢
 by_cases h0:(z76 cs t).2=10
 ·rw [beqT h0] at h; cases h
 ·rw [beqF h0] at h ⊢
  cases hc:((code != 1)&&(code != 2)) with
  | true=>rw [hc] at h; cases h
  | false =>
   rw [hc] at h
   by_cases h2:(z76 cs t).2=0
   ·refine ⟨h2,?_,?_⟩
    ·by_cases h3:code=1
     ·exact .inl h3
     ·right
      rw [bneT h3,Bool.true_and] at hc
      by_cases h4:code=2
      ·exact h4
      ·rw [bneT h4] at hc; cases hc
    ·rw [bneF h2]; rfl
   ·rw [bneT h2] at h
    exact absurd h h2
theorem qgJ (cs code:Int) (t:List Int) (hl:t.length≤1048576):0≤(told cs code t).1∧(told cs code t).1≤16777220:=by
 by_cases h:(told cs code t).2=0
 ·have h1:=qID h
  have h2:=qfb cs t hl
  have h3:=qkO code (z76 cs t).1
  rw [h1.2.2]; omega
 ·rw [qDI cs code t h]; decide
def lenE (cs code:Int) (t:List Int):Int×Int:=bif (told cs code t).2 != 0 then (0,(told cs code t).2) else ((told cs code t).1+z17 cs,0)
theorem len_E (cs code:Int) (t:List Int) (h:i32s t=true) (hl:t.length≤1048576):z66 cs code t=lenE cs code t:=by
 have h1:=qgJ cs code t hl
 have h2:=qgI cs
 unfold z66 lenE
 rw [qji cs code t h hl,IntWalk.i64_in _ (by omega)]
theorem qkP (cs code:Int) (t:List Int) (hl:t.length≤1048576):z69 cs code t=lenE cs code t:=by
 have h0:=qfb cs t hl
 have h2:=qgI cs
 have h3:=qkO code (z76 cs t).1
 unfold z69 lenE told z18
 rw [qAa,qpm]
 unfold qhm at h3 ⊢
 have hb:bLen (z76 cs t).1.length≤100000000:=by unfold bLen; omega
 have hq:=qph (z76 cs t).1
 rw [IntWalk.i64_in (z17 cs+((bLen (z76 cs t).1.length:Nat):Int)) (by omega),IntWalk.i64_in (z17 cs+((qLen (z76 cs t).1:Nat):Int)) (by omega)]
 by_cases e0:(z76 cs t).2=10
 ·rw [beqT e0]; rfl
 ·rw [beqF e0]
  cases ((code != 1)&&(code != 2)) with
  | true=>rfl
  | false =>
   by_cases e1:(z76 cs t).2=0
   ·rw [bneF e1]
    cases (code==1) <;> simp [Int.add_comm]
   ·rw [bneT e1]
    show (0,(z76 cs t).2)=bif (z76 cs t).2 != 0 then (0,(z76 cs t).2) else _
    rw [bneT e1]; rfl
theorem qAl {cs:Int} {t:List Int}:(told cs 1 t).2=(told cs 2 t).2:=by
 unfold told
 cases ((z76 cs t).2==10) <;> cases ((z76 cs t).2 != 0) <;> rfl
theorem qAm (cs:Int) (t:List Int) (h:i32s t=true) (hl:t.length≤1048576):z72 cs t=z74 cs t:=by
 have h1:=qgJ cs 1 t hl
 have h2:=qgJ cs 2 t hl
 have h3:=qgI cs
 unfold z72 z74 z118 z159
 rw [qkP cs 1 t hl,qkP cs 2 t hl,qji cs 1 t h hl,qji cs 2 t h hl,IntWalk.i64_in _ (by omega)]
 unfold lenE
 rw [← qAl]
 by_cases h0:(told cs 1 t).2=0
 ·rw [bneF h0]
  show (bif decide (0≤(told cs 1 t).1 - (told cs 2 t).1) then _ else _)=(bif decide ((told cs 2 t).1+z17 cs≤(told cs 1 t).1+z17 cs) then _ else _)
  rw [show decide (0≤(told cs 1 t).1 - (told cs 2 t).1)=decide ((told cs 2 t).1+z17 cs≤(told cs 1 t).1+z17 cs) by congr 1; apply propext; omega]
 ·rw [bneT h0]
  show _=bif (told cs 1 t).2 != 0 then (0,(told cs 1 t).2) else _
  rw [bneT h0]; rfl
theorem qIE (cs code:Int) (t:List Int) (rm:Int) (h:i32s t=true) (hl:t.length≤1048576):z156 cs code t rm=z115 cs code t rm:=by
 unfold z156 z115
 rw [len_E cs code t h hl,qkP cs code t hl]
 congr 1
 congr 1
 rw [Bool.eq_iff_iff]
 simp only [Bool.and_eq_true,decide_eq_true_eq]
 by_cases hr:75 < rm
 ·rw [dT hr]; show _≤(75:Int)↔_; omega
 ·rw [dF hr]; show _≤rm↔_; omega
theorem qAn {t:List Int} (h:i32s t=true) (n:Nat):i32s (t.take n)=true:=by
 unfold i32s at h ⊢
 rw [List.all_eq_true] at h ⊢
 exact fun c hc=>h c (List.mem_of_mem_take hc)
theorem qhn {p q:List Int→Bool} (t:List Int) (h:∀ n,p (t.take n)=q (t.take n)):∀ d n,qp p t d n=qp q t d n
 | 0,_=>rfl
 | d+1,n=>by
  show (bif p (t.take (n+1)) then qp p t d (n+1) else n)=bif q (t.take (n+1)) then qp q t d (n+1) else n
  rw [h,qhn t h d]
theorem qAo (cs code:Int) (t:List Int) (rm:Int) (h:i32s t=true) (hl:t.length≤1048576):z114 cs code t rm=z70 cs code t rm:=by
 unfold z114 z70
 rw [qhn (q:=fun u=>z115 cs code u rm) t (fun n=>qIE cs code (t.take n) rm (qAn h n) (by rw [List.length_take]; omega))]
theorem qbe (p:List Int→Bool) (t:List Int):∀ (d n:Nat),n≤qp p t d n∧qp p t d n≤n+d∧(n < qp p t d n→p (t.take (qp p t d n))=true)∧(qp p t d n < n+d→p (t.take (qp p t d n+1))=false)
 | 0,n=>by unfold qp; refine ⟨Nat.le_refl _,Nat.le_refl _,fun h=>absurd h (Nat.lt_irrefl _),fun h=>absurd h (by omega)⟩
 | d+1,n=>by
  rw [show qp p t (d+1) n=bif p (t.take (n+1)) then qp p t d (n+1) else n from rfl]
  cases hp:p (t.take (n+1)) with
  | false =>
   show n≤n∧n≤n+(d+1)∧(n < n→_)∧(n < n+(d+1)→_)
   exact ⟨Nat.le_refl _,by omega,fun h=>absurd h (Nat.lt_irrefl _),fun _=>hp⟩
  | true =>
   show n≤qp p t d (n+1)∧qp p t d (n+1)≤n+(d+1)∧(n < qp p t d (n+1)→_)∧(qp p t d (n+1) < n+(d+1)→_)
   obtain ⟨h1,h2,h3,h4⟩:=qbe p t d (n+1)
   refine ⟨by omega,by omega,fun _=>?_,fun hlt=>h4 (by omega)⟩
   by_cases e:n+1 < qp p t d (n+1)
   ·exact h3 e
   ·have:qp p t d (n+1)=n+1:=by omega
    rw [this]; exact hp
end Go.Av
