import Derived.Test.YtopepdfipgfakaaGreatDoorEfP7
namespace Go.Av
set_option linter.unusedVariables false
set_option linter.unusedSimpArgs false
theorem qrJ:∀ i:Fin 256,((bif decide ((UInt8.ofNat i.val) < (128:UInt8)) then (1:Int) else bif decide ((194:UInt8)≤(UInt8.ofNat i.val))&&decide ((UInt8.ofNat i.val)≤(223:UInt8)) then 2 else bif decide ((224:UInt8)≤(UInt8.ofNat i.val))&&decide ((UInt8.ofNat i.val)≤(239:UInt8)) then 3
 else bif decide ((240:UInt8)≤(UInt8.ofNat i.val))&&decide ((UInt8.ofNat i.val)≤(244:UInt8)) then 4 else 0)==z217 (UInt8.ofNat i.val))=true:=by decide +kernel
theorem qvV:∀ (c0:UInt8),∃ n,qtb n c0=qP (z153 c0):=fun c=>⟨0,by
 have h:=qat (P:=fun c=>((bif decide (c < (128:UInt8)) then (1:Int) else bif decide ((194:UInt8)≤c)&&decide (c≤(223:UInt8)) then 2 else bif decide ((224:UInt8)≤c)&&decide (c≤(239:UInt8)) then 3
  else bif decide ((240:UInt8)≤c)&&decide (c≤(244:UInt8)) then 4 else 0)==z217 c)=true) qrJ c
 rw [beq_iff_eq] at h
 unfold qtb z153
 rw [← h]
 cases decide (c < (128:UInt8)) <;> cases decide ((194:UInt8)≤c) <;> cases decide (c≤(223:UInt8)) <;> cases decide ((224:UInt8)≤c) <;> cases decide (c≤(239:UInt8)) <;> cases decide ((240:UInt8)≤c) <;> cases decide (c≤(244:UInt8)) <;> rfl⟩
theorem qvW:∀ (c0:UInt8),∃ n,qtc n c0=qeo (z193 c0).1 (z193 c0).2:=fun c=>⟨0,by
 unfold qtc z193
 cases (c==(224:UInt8)) <;> cases (c==(237:UInt8)) <;> cases (c==(240:UInt8)) <;> cases (c==(244:UInt8)) <;> rfl⟩
def inR (a b y:UInt8):Bool := !(decide (y < a)) && !(decide (b < y))
theorem qgy:∀ i:Fin 256,inR 128 191 (UInt8.ofNat i.val)=z235 (UInt8.ofNat i.val):=by decide +kernel
theorem qms (y:UInt8):inR 128 191 y=z235 y:=qat (P:=fun y=>inR 128 191 y=z235 y) qgy y
theorem in_a:∀ i:Fin 256,inR 160 191 (UInt8.ofNat i.val)=(z235 (UInt8.ofNat i.val)&&(decide ((160:UInt8)≤(UInt8.ofNat i.val))&&z235 (UInt8.ofNat i.val))):=by decide +kernel
theorem in_b:∀ i:Fin 256,inR 128 159 (UInt8.ofNat i.val)=(z235 (UInt8.ofNat i.val)&&(decide ((UInt8.ofNat i.val) < (160:UInt8))&&z235 (UInt8.ofNat i.val))):=by decide +kernel
theorem in_c:∀ i:Fin 256,inR 144 191 (UInt8.ofNat i.val)=(z235 (UInt8.ofNat i.val)&&(decide ((144:UInt8)≤(UInt8.ofNat i.val))&&z235 (UInt8.ofNat i.val))):=by decide +kernel
theorem in_d:∀ i:Fin 256,inR 128 143 (UInt8.ofNat i.val)=(z235 (UInt8.ofNat i.val)&&(decide ((UInt8.ofNat i.val) < (144:UInt8))&&z235 (UInt8.ofNat i.val))):=by decide +kernel
theorem qvX (x y:UInt8):inR (z193 x).1 (z193 x).2 y=(z235 y&&z236 x y):=by
 unfold z193 z236
 cases (x==(224:UInt8))
 ·cases (x==(237:UInt8))
  ·cases (x==(240:UInt8))
   ·cases (x==(244:UInt8))
    ·show inR 128 191 y=_
     rw [qms]
     cases z235 y <;> rfl
    ·exact qat (P:=fun y=>inR 128 143 y=(z235 y&&(decide (y < (144:UInt8))&&z235 y))) in_d y
   ·exact qat (P:=fun y=>inR 144 191 y=(z235 y&&(decide ((144:UInt8)≤y)&&z235 y))) in_c y
  ·exact qat (P:=fun y=>inR 128 159 y=(z235 y&&(decide (y < (160:UInt8))&&z235 y))) in_b y
 ·exact qat (P:=fun y=>inR 160 191 y=(z235 y&&(decide ((160:UInt8)≤y)&&z235 y))) in_a y
theorem qmt {α:Type} (a b y:UInt8) (p q:α):(bif decide (y < a) then p else bif decide (b < y) then p else q)=bif inR a b y then q else p:=by
 unfold inR
 cases decide (y < a) <;> cases decide (b < y) <;> rfl
theorem qmu (m:Nat) (x:UInt8) (r:List UInt8) (hl:r.length≤1048576):∀ (d i n:Nat),qf x=i+d→1≤i→i≤r.length+1→d < n →
 qeE qbi (qcs m) n (x :: r) (i:Nat)=qbi ((i+runB x d (i==1) (r.drop (i - 1)):Nat):Int)
 | d,i,0,_,_,_,hn=>by omega
 | 0,i,n+1,hs,hi,hr,hn=>by
  show qcr _ _ _ n _ _=_
  unfold qcr
  have e0:z153 (List.getD (x :: r) (Int.toNat 0) 0)=((qf x:Nat):Int):=rfl
  have h0:decide ((0:Int) < (((x :: r).length:Nat):Int))=true:=dT (by simp only [List.length_cons]; omega)
  rw [e0,h0,dF (show ¬ ((i:Nat):Int) < ((qf x:Nat):Int) by omega)]
  have hr0:runB x 0 (i==1) (r.drop (i - 1))=0:=by cases r.drop (i - 1) <;> rfl
  rw [hr0]
  rfl
 | d+1,i,n+1,hs,hi,hr,hn=>by
  show qcr _ _ _ n _ _=_
  unfold qcr
  have e0:z153 (List.getD (x :: r) (Int.toNat 0) 0)=((qf x:Nat):Int):=rfl
  have h0:decide ((0:Int) < (((x :: r).length:Nat):Int))=true:=dT (by simp only [List.length_cons]; omega)
  rw [e0,h0,dT (show ((i:Nat):Int) < ((qf x:Nat):Int) by omega)]
  simp only [cond_true,Bool.and_true,show decide ((0:Int)≤0)=true from rfl]
  by_cases hlt:i < (x :: r).length
  ·have hlt':i - 1 < r.length:=by simp only [List.length_cons] at hlt; omega
   obtain ⟨y,hy⟩:∃ y,r.getD (i - 1) 0=y:=⟨_,rfl⟩
   have hg:(x :: r).getD i 0=y:=by
    obtain ⟨k,rfl⟩:∃ k,i=k+1:=⟨i - 1,by omega⟩
    exact hy
   have hdr:r.drop (i - 1)=y :: r.drop i:=by
    have:=qad hlt'
    rw [this,hy,show i - 1+1=i by omega]
   have e2:List.getD (x :: r) (Int.toNat 0) 0=x:=rfl
   rw [dT (show ((i:Nat):Int) < (((x :: r).length:Nat):Int) by omega),dT (show (0:Int)≤((i:Nat):Int) by omega),tn,hg,hdr,e2]
   simp only [cond_true,Bool.and_true]
   have hrun:runB x (d+1) (i==1) (y :: r.drop i)=bif z235 y&&(!(i==1)||z236 x y) then runB x d false (r.drop i)+1 else 0:=rfl
   have ih:=qmu m x r hl d (i+1) n (by omega) (by omega) (by simp only [List.length_cons] at hlt; omega) (by omega)
   rw [show i+1 - 1=i by omega,show (i+1==1)=false by simp; omega] at ih
   rw [hrun,qmt,qmt,qvX,qms]
   have hfin:qeE qbi (qcs m) n (x :: r) (IntKind.wrap .i64 (((i:Nat):Int)+1))=qbi ((i+(runB x d false (r.drop i)+1):Nat):Int):=by
    rw [qv (by omega),ih,show i+1+runB x d false (r.drop i)=i+(runB x d false (r.drop i)+1) by omega]
   by_cases h1:i=1
   ·subst h1
    rw [show (((1:Nat):Int)==1)=true from rfl,show ((1:Nat)==1)=true from rfl,cond_true,Bool.not_true,Bool.false_or]
    cases z235 y&&z236 x y
    ·rfl
    ·exact hfin
   ·rw [show (((i:Nat):Int)==1)=false by simp; omega,show (i==1)=false by simpa using h1,cond_false,Bool.not_false,Bool.true_or,Bool.and_true]
    cases z235 y
    ·rfl
    ·exact hfin
  ·have hi2:i=r.length+1:=by simp only [List.length_cons] at hlt; omega
   rw [dF (show ¬ ((i:Nat):Int) < (((x :: r).length:Nat):Int) by omega),cond_false,List.drop_eq_nil_of_le (by omega)]
   rfl
theorem qvY:∀ (s0:List UInt8),(qmg s0=true)→∃ n,qmO n s0=qbi (z152 s0):=fun s h=>⟨6,by
 have hl:=qm h
 match s with
 | []=>rfl
 | x :: r =>
  simp only [List.length_cons] at hl
  have h4:=qfe x
  have ef:z152 (x :: r)=((bif qf x==0 then 0 else 1+runB x (qf x - 1) true r:Nat):Int):=rfl
  have e0:z153 (List.getD (x :: r) (Int.toNat 0) 0)=((qf x:Nat):Int):=rfl
  have h0':decide ((0:Int) < (((x :: r).length:Nat):Int))=true:=dT (by simp only [List.length_cons]; omega)
  have h00:((((x :: r).length:Nat):Int)==0)=false:=by rw [beq_eq_false_iff_ne]; simp only [List.length_cons]; omega
  unfold qmO
  rw [ef,e0,h0',h00]
  simp only [cond_false,Bool.and_true,show decide ((0:Int)≤0)=true from rfl,cond_true]
  by_cases h0:qf x=0
  ·rw [h0]; rfl
  ·rw [show (qf x==0)=false by simpa using h0,show (((qf x:Nat):Int)==0)=false by rw [beq_eq_false_iff_ne]; omega,cond_false,cond_false]
   have:=qmu 6 x r (by omega) (qf x - 1) 1 6 (by omega) (Nat.le_refl 1) (by omega) (by omega)
   rw [show (1:Nat) - 1=0 from rfl,List.drop_zero] at this
   exact this⟩
theorem qrK:∀ (f:UInt8) (n:Nat) (one:Bool) (s:List UInt8),runB f n one s=n→(s.take n).all z235=true
 | f,0,one,s,_=>by cases s <;> rfl
 | f,n+1,one,[],h=>by cases h
 | f,n+1,one,x :: r,h=>by
  have h':(bif z235 x&&(!one||z236 f x) then runB f n false r+1 else 0)=n+1:=h
  cases hc:z235 x&&(!one||z236 f x) with
  | false=>rw [hc] at h'; cases h'
  | true =>
   rw [hc,cond_true] at h'
   rw [Bool.and_eq_true] at hc
   rw [List.take_succ_cons,List.all_cons,hc.1,qrK f n false r (by omega)]; rfl
theorem qoa:∀ i:Fin 256,(qf (UInt8.ofNat i.val)==0||(((UInt8.ofNat i.val).toNat:Int) - List.getD ([(0:Int),(0:Int),(192:Int),(224:Int),(240:Int)]:List Int) (qf (UInt8.ofNat i.val)) 0==((((UInt8.ofNat i.val) &&& (255 ^^^ (z218 ((qf (UInt8.ofNat i.val):Nat):Int)))).toNat:Nat):Int)))=true:=by decide +kernel
theorem qjr (m:Nat) (s:List UInt8) (N:Nat) (hl:s.length≤1048576) (hN:N≤s.length):∀ (d i n b c:Nat),i+d=N→d < n→c < b→b*64 ^ d≤67108864→((s.drop i).take d).all z235=true →
 qgo (qdH m) n s (N:Int) (c:Int) (i:Nat)=qbj (foldS ((s.drop i).take d) c) N 0
 | d,i,0,b,c,hi,hn,_,_,_=>by omega
 | 0,i,n+1,b,c,hi,hn,hc,hb,_=>by
  obtain rfl:i=N:=by omega
  show qct _ _ n _ _ _ _=_
  unfold qct
  rw [dF (by omega),cond_false,List.take_zero]
  show qbj (IntKind.wrap .i32 (c:Int)) _ 0=_
  rw [IntWalk.i32_in _ (by omega)]; rfl
 | d+1,i,n+1,b,c,hi,hn,hc,hb,hF=>by
  show qct _ _ n _ _ _ _=_
  unfold qct
  have hlt:i < s.length:=by omega
  have h64:0 < 64 ^ d:=Nat.pow_pos (by decide)
  have hb':b*64*64 ^ d≤67108864:=by rw [Nat.pow_succ] at hb; rwa [Nat.mul_assoc,Nat.mul_comm 64]
  have hb2:b*64≤b*64*64 ^ d:=Nat.le_mul_of_pos_right _ h64
  rw [qad hlt,List.take_succ_cons,List.all_cons,Bool.and_eq_true] at hF
  have hy:=low6 (s.getD i 0)
  have hyf:=low6f hF.1
  simp (disch:=omega) only [dT,cond_true,Bool.and_true,tn]
  have e1:IntKind.wrap .i64 ((IntKind.wrap .i64 ((IntKind.wrap .i64 ((64:Int)*(c:Int)))+(IntKind.wrap .i64 (((s.getD i 0).toNat:Nat):Int)))) - (128:Int))=((c*64+((s.getD i 0) &&& 63).toNat:Nat):Int):=by
   rw [IntWalk.i64_in (64*(c:Int)) (by omega),IntWalk.i64_in (((s.getD i 0).toNat:Nat):Int) (by omega),IntWalk.i64_in (64*(c:Int)+_) (by omega),IntWalk.i64_in _ (by omega)]
   omega
  rw [e1,qv (by omega),qjr m s N hl hN d (i+1) n (b*64) _ (by omega) (by omega) (by omega) hb' hF.2,qad hlt,List.take_succ_cons]
  show _=qbj (foldS ((s.drop (i+1)).take d) ((c:Int)*64+(((s.getD i 0) &&& 63).toNat:Int))) N 0
  congr 2
theorem qvZ:∀ (s0:List UInt8),(qmh s0=true)→∃ n,qmP n s0=qbj (z111 s0).1 (z111 s0).2.1 (z111 s0).2.2:=fun s h=>⟨s.length+5,by
 have hl:=qm h
 match s with
 | []=>rfl
 | x :: r =>
  simp only [List.length_cons] at hl
  have hf:=qrI x r
  have h4:=qfe x
  obtain ⟨N,hN⟩:∃ N,farN (x :: r)=N:=⟨_,rfl⟩
  have eT:z111 (x :: r)=bif farN (x :: r)==0 then ((0:Int),((1:Int),(3:Int))) else bif decide (farN (x :: r) < qf x)&&(farN (x :: r)==(x :: r).length) then (0,(farN (x :: r):Nat),4)
   else bif decide (farN (x :: r) < qf x) then (0,(farN (x :: r):Nat),3) else (signN (farN (x :: r)) (x :: r),(farN (x :: r):Nat),0):=rfl
  have eF:z152 (x :: r)=(N:Int):=by rw [← hN]; rfl
  have eS:z153 (List.getD (x :: r) (Int.toNat 0) 0)=((qf x:Nat):Int):=rfl
  have hok:qmg (x :: r)=true:=qt (show (x :: r).length≤1048576 by simp only [List.length_cons]; omega)
  have h0:decide ((0:Int) < (((x :: r).length:Nat):Int))=true:=dT (by simp only [List.length_cons]; omega)
  have h00:((((x :: r).length:Nat):Int)==0)=false:=by rw [beq_eq_false_iff_ne]; simp only [List.length_cons]; omega
  rw [eT,hN]
  rw [hN] at hf
  unfold qmP
  rw [eF,eS,hok,h0,h00]
  simp only [Bool.and_true,cond_true,cond_false,show decide ((0:Int)≤0)=true from rfl]
  by_cases hz:N=0
  ·subst hz
   rw [show decide ((0:Int) < ((0:Nat):Int))=false from rfl,show (((0:Nat):Int)==(((x :: r).length:Nat):Int))=false by rw [beq_eq_false_iff_ne]; simp only [List.length_cons]; omega]
   rfl
  ·rw [dT (show (0:Int) < ((N:Nat):Int) by omega),show (N==0)=false by simpa using hz]
   simp only [cond_true,cond_false]
   by_cases hs:N < qf x
   ·rw [show (((N:Nat):Int)==((qf x:Nat):Int))=false by rw [beq_eq_false_iff_ne]; omega,decide_eq_true hs]
    simp only [cond_true,Bool.true_and,cond_false]
    by_cases hlN:N=(x :: r).length
    ·rw [show (((N:Nat):Int)==(((x :: r).length:Nat):Int))=true by rw [beq_iff_eq]; omega,show (N==(x :: r).length)=true by simpa using hlN]
     rfl
    ·rw [show (((N:Nat):Int)==(((x :: r).length:Nat):Int))=false by rw [beq_eq_false_iff_ne]; omega,show (N==(x :: r).length)=false by simpa using hlN,cond_false,cond_false]
     rw [show decide ((1:Int) > ((N:Nat):Int))=false from dF (by omega)]
     rfl
   ·have hNs:N=qf x:=by omega
    rw [show (((N:Nat):Int)==((qf x:Nat):Int))=true by rw [beq_iff_eq]; omega,decide_eq_false hs]
    simp only [cond_false,Bool.false_and,cond_true]
    rw [dT (show (0:Int)≤((N:Nat):Int) by omega),dT (show ((N:Nat):Int) < ((([(0:Int),(0:Int),(192:Int),(224:Int),(240:Int)]:List Int).length:Nat):Int) by show ((N:Nat):Int) < ((5:Nat):Int); omega)]
    simp only [Bool.and_true,cond_true,tn]
    have e2:List.getD (x :: r) (Int.toNat 0) 0=x:=rfl
    have hx:=(x &&& (255 ^^^ z218 ((N:Nat):Int))).toNat_lt
    have hfs:=qat (P:=fun x=>(qf x==0||((x.toNat:Int) - List.getD ([(0:Int),(0:Int),(192:Int),(224:Int),(240:Int)]:List Int) (qf x) 0==(((x &&& (255 ^^^ (z218 ((qf x:Nat):Int)))).toNat:Nat):Int)))=true) qoa x
    rw [show (qf x==0)=false by rw [beq_eq_false_iff_ne]; omega,Bool.false_or,beq_iff_eq,← hNs] at hfs
    have hxl:=x.toNat_lt
    rw [e2,IntWalk.i64_in ((x.toNat:Nat):Int) (by omega),hfs,IntWalk.i64_in _ (by omega)]
    have hall:((r.take (N - 1)).all z235)=true:=by
     refine qrK x (N - 1) true r ?_
     have hN':(bif qf x==0 then 0 else 1+runB x (qf x - 1) true r)=N:=hN
     rw [show (qf x==0)=false by rw [beq_eq_false_iff_ne]; omega,cond_false,← hNs] at hN'
     omega
    have:=qjr ((x :: r).length+5) (x :: r) N (by simp only [List.length_cons]; omega) (by simp only [List.length_cons]; omega) (N - 1) 1 ((x :: r).length+5) 256 _ (by omega) (by simp only [List.length_cons]; omega) hx (by
     have:N - 1=0∨N - 1=1∨N - 1=2∨N - 1=3:=by omega
     rcases this with e | e | e | e <;> rw [e] <;> decide) hall
    exact this⟩
end Go.Av
