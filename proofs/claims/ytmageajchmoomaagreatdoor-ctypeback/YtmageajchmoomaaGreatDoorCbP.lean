import Derived.Test.YtmageajchmoomaaGreatDoorCbT
namespace Go.Av
set_option linter.unusedSimpArgs false
set_option linter.unusedVariables false
section
open List (getD)
open Int (toNat)
open UInt8 (ofNat)
open IntKind (wrap)
variable {i:Nat} {x:Int} {s:LU}
theorem qgD (s:LU) (i:Int):qw s i≤s.length:=Nat.min_le_right ..
theorem qRe (s:LU) (i:Nat) (h:s.length≤i):tokN s i=[]:=by
 unfold tokN;rw[yA h];rfl
theorem qSX (s:LU) (i:Nat) (h:i < s.length):tokN s i=bif z35 (s.getD i 0) 64 then s.getD i 0 :: tokN s (i+1) else []:=by
 unfold tokN;rw[qx (d:=0) h,List.takeWhile_cons];cases z35 (s.getD i 0) 64 <;> simp
theorem qLT (s:LU) (i:Nat) (h:i≤s.length):i+(tokN s i).length≤s.length:=by
 unfold tokN;have h1:((s.drop i).takeWhile fun c=>z35 c 64).length≤(s.drop i).length:=(List.takeWhile_prefix _).length_le;rw[yK] at h1;omega
theorem qLU (s:LU) (i:Nat) (h:i≤s.length):(s.take (i+(tokN s i).length)).drop i=tokN s i:=by
 rw[List.drop_take,Nat.add_sub_cancel_left];unfold tokN;exact(List.prefix_iff_eq_take.1 (List.takeWhile_prefix _)).symm
theorem qkg (a b:Nat):(((a:Nat):Int)==((b:Nat):Int))=(a==b):=by
 by_cases h:a=b
 ·subst h;simp
 ·rw[beq_eq_false_iff_ne.2 h,beq_eq_false_iff_ne.2 (by omega)]
theorem qnH:unqG []=none:=by unfold unqG;rfl
theorem qsD (c:UInt8):unqG [c]=bif c==34 then some ([],1) else none:=by unfold unqG;rfl
theorem qAe (c d:UInt8) (r:LU):unqG (c :: d :: r)=bif c==34 then some ([],1) else bif c==92 then (unqG r).map fun x=>(d :: x.1,x.2+2) else (unqG (d :: r)).map fun x=>(c :: x.1,x.2+1):=by
 conv=>lhs;unfold unqG
theorem qlD (r:LU):unqG (34 :: r)=some ([],1):=by
 cases r with
 | nil=>rw[qsD];rfl
 | cons d r=>rw[qAe];rfl
theorem qsE (d:UInt8) (r:LU):unqG (92 :: d :: r)=(unqG r).map fun x=>(d :: x.1,x.2+2):=by rw[qAe];rfl
theorem qlE (c:UInt8) (r:LU) (h1:(c==34)=false) (h2:(c==92)=false):unqG (c :: r)=(unqG r).map fun x=>(c :: x.1,x.2+1):=by
 cases r with
 | nil=>rw[qsD,h1,qnH];rfl
 | cons d r=>rw[qAe,h1,h2];rfl
theorem qqk (s:LU):s.take (toNat ((s.length:Nat):Int))=s:=by rw[tn,List.take_length]
theorem qhL:∀ (m:Nat) (s:LU),s.length≤m→∀ x,unqG s=some x→x.2≤s.length∧0 < x.2
 | 0,[],_,x,h=>by rw[qnH] at h;cases h
 | m+1,[],_,x,h=>by rw[qnH] at h;cases h
 | m+1,c :: r,hm,x,h=>by
  simp only[yg] at hm ⊢
  by_cases e1:c=34
  ·subst e1;rw[qlD] at h;cases h;simp
  ·by_cases e2:c=92
   ·subst e2;cases r with
    | nil=>rw[qsD] at h;cases h
    | cons d r =>
     rw[qsE] at h;cases e:unqG r with
     | none=>rw[e] at h;cases h
     | some y =>
      rw[e] at h;cases h;simp only[yg] at hm ⊢;have:=qhL m r (by omega) y e;omega
   ·rw[qlE c r (beq_eq_false_iff_ne.2 e1) (beq_eq_false_iff_ne.2 e2)] at h;cases e:unqG r with
    | none=>rw[e] at h;cases h
    | some y =>
     rw[e] at h;cases h;have:=qhL m r (by omega) y e;simp only;omega
theorem qkh (s:LU):0≤(qB s).2.1∧(qB s).2.1≤((s.length:Nat):Int):=by
 cases s with
 | nil=>exact⟨Int.le_refl 0,Int.le_refl 0⟩
 | cons c r =>
  rw[show qB (c :: r)=bif c != 34 then ([],(0,3)) else unqR (unqG r) from rfl];cases c != 34 with
  | true=>simp only[yc,yg];omega
  | false =>
   simp only[yd];cases e:unqG r with
   | none=>simp only[unqR,yg];omega
   | some x =>
    have:=qhL r.length r (yv _) x e;simp only[unqR,yg];omega
theorem qgT {α:Type} {l:List α} {d:α} (h:i < l.length):l.getD i d=l[i]:=by simp[getD,h]
theorem qLV:∀ (s0:LU) (at1:Int),∃ n,qPX n s0 at1=qyD (z33 s0 at1):=fun s i=>⟨0,by
 unfold qPX z33 qw
 by_cases h:(0:Int) > i
 ·rw[dT h,yc,dF (by omega)];show qyD 0=_;have:i.toNat=0:=by omega
  rw[this];simp
 ·rw[dF h,yd]
  by_cases h2:((s.length:Nat):Int) < i
  ·rw[dT h2,yc];congr 1;omega
  ·rw[dF h2,yd];congr 1;omega⟩
theorem qgU (h : -1000000001≤x∧x≤1000000001):wrap .i64 x=x:=IntWalk.i64_in _ (by omega)
theorem qSY (a b:Int):(bif decide (b > a) then b else a)=max a b:=by
 by_cases h:b > a
 ·rw[dT h,yc];omega
 ·rw[dF h,yd];omega
theorem qLW:∀ (k0:Int×(Int×(Bool×Unit))) (c1:UInt8),(qGn k0 c1=true)→∃ n,qKv n k0 c1=qjH (z54 k0 c1).1 (z54 k0 c1).2:=fun k c h=>⟨0,by
 have h:=of_decide_eq_true h;obtain⟨d,m,t,u⟩:=k;simp only at h;unfold qKv qcH z54 takeK;simp only[qSY];rw[qgU (by omega : -1000000001≤d+1∧d+1≤1000000001),qgU (by omega : -1000000001≤d - 1∧d - 1≤1000000001)];cases t with
 | true=>rfl
 | false =>
  simp only[yd];cases c==92 with
  | true=>rfl
  | false =>
   cases c==40 with
   | true=>rfl
   | false=>cases c==41 <;> rfl⟩
theorem qAf (k:CommT) (c:UInt8):k.1 - 1≤(takeK k c).2.1∧(takeK k c).2.1≤k.1+1:=by
 unfold takeK;cases k.2.2.1 with
 | true=>simp only[yc];omega
 | false =>
  cases c==92 with
  | true=>simp only[yc,yd];omega
  | false =>
   cases c==40 with
   | true=>simp only[yc,yd];omega
   | false=>cases c==41 <;> simp only[yc,yd] <;> omega
theorem qlF:∀ (l:LU) (k:CommT),(overF k l).1≤l.length
 | [],k=>yv _
 | c :: r,k=>by
  have:=qlF r (takeK k c).2;unfold overF;cases (takeK k c).1 with
  | true=>simp
  | false=>simp only[yd,yg];omega
theorem qsF (ret:Int→Int→OA) (s s0:LU) (hl:s.length≤1048576) (k0:LU→CommT→OA):∀ (d i n:Nat) (k:CommT),i+d=s.length→d < n→(-(i:Int)≤k.1∧k.1≤i) →
 (∀ k',k0 s0 k'=ret ((s.length:Nat):Int) k'.2.1) →
 quh ret k0 n s0 k s ((s.length:Nat):Int) (i:Int)=ret ((i+(overF k (s.drop i)).1:Nat):Int) (overF k (s.drop i)).2.2.1
 | d,i,0,k,hi,hn,_,_=>by omega
 | 0,i,n+1,k,hi,hn,_,hk0=>by
  show qgc _ _ _ n _ _ _ _ _=_;unfold qgc;rw[dF (by omega),yA (by omega),yd,hk0];show ret _ _=ret ((i+0:Nat):Int) k.2.1;rw[show i+0=s.length by omega]
 | d+1,i,n+1,k,hi,hn,hb,hk0=>by
  show qgc _ _ _ n _ _ _ _ _=_;unfold qgc;have hlt:i < s.length:=by omega
  have htk:=qAf k (s.getD i 0);have ih:=qsF ret s s0 hl k0 d (i+1) n (takeK k (s.getD i 0)).2 (by omega) (by omega) (by omega) hk0;rw[qx (d:=(0:UInt8)) hlt];have hok:qGn k (s.getD i 0)=true:=dT (by omega);simp (disch:=omega) only [dT,yc,yi,y6,tn,ql,hok];rw[show z54 k (s.getD i 0)=takeK k (s.getD i 0) from rfl];unfold overF;cases (takeK k (s.getD i 0)).1 with
  | true=>rfl
  | false =>
   simp only[yd];rw[ih];congr 1;omega
theorem qLX:∀ (s0:LU),(qGo s0=true)→∃ n,qKw n s0=qnb (z34 s0).1 (z34 s0).2:=fun s h=>⟨s.length+1,by
 have hl:=qf h;have:=qsF qnb s s hl (qpB (s.length+1)) s.length 0 (s.length+1) (0,(0,(false,()))) (by omega) (by omega) (by simp) (fun _=>rfl);rw[yw,yE] at this;exact this⟩
theorem qhM (c:UInt8) (r:LU):1≤(overC (c :: r)).1:=by
 unfold overC overF;cases (takeK (0,(0,(false,()))) c).1 <;> simp
theorem qAg:∀ (n:Nat) (s:LU),gapL n s≤s.length
 | 0,s=>Nat.zero_le _
 | n+1,[]=>Nat.zero_le _
 | n+1,c :: r=>by
  have h1:=qlF (c :: r) (0,(0,(false,())));have h2:=qAg n ((c :: r).drop (overC (c :: r)).1);have h3:=qAg n r;unfold gapL;rw[yK] at h2;unfold overC at *
  cases c==40 with
  | true=>simp only[yc];omega
  | false =>
   cases blkB c with
   | true=>simp only[yc,yd,yg];omega
   | false=>simp
theorem qlG:∀ (n m:Nat) (s:LU),s.length < n→s.length < m→gapL n s=gapL m s
 | n+1,m+1,[],_,_=>rfl
 | n+1,m+1,c :: r,hn,hm=>by
  have h0:=qhM c r;rw[yg] at hn hm;unfold gapL;rw[qlG n m ((c :: r).drop (overC (c :: r)).1) (by rw[yK,yg];omega) (by rw[yK,yg];omega),qlG n m r (by omega) (by omega)]
theorem qLY (s:LU) (i:Nat) (h:s.length≤i):gapW s i=i:=by
 unfold gapW;rw[yA h];rfl
theorem qfx (s:LU) (i:Nat) (h:i < s.length):gapW s i=bif s.getD i 0==40 then gapW s (i+(overC (s.drop i)).1) else bif blkB (s.getD i 0) then gapW s (i+1) else i:=by
 have hd:=qx (d:=(0:UInt8)) h;have hp:1≤(overC (s.drop i)).1:=by rw[hd];exact qhM _ _
 have hlen:(s.drop (i+1)).length=s.length - (i+1):=yK;unfold gapW;rw[qlG (s.length+1) (s.length+2) (s.drop i) (by rw[yK];omega) (by rw[yK];omega)];rw[hd];rw[hd] at hp;show i+(bif s.getD i 0==40 then (overC (s.getD i 0 :: s.drop (i+1))).1+gapL (s.length+1) ((s.getD i 0 :: s.drop (i+1)).drop (overC (s.getD i 0 :: s.drop (i+1))).1) else bif blkB (s.getD i 0) then gapL (s.length+1) (s.drop (i+1))+1 else 0)=_;cases s.getD i 0==40 with
 | true =>
  simp only[yc];rw[← hd,List.drop_drop];omega
 | false =>
  cases blkB (s.getD i 0) with
  | true=>simp only[yc,yd];omega
  | false=>simp
theorem qHZ (s:LU) (i:Nat) (h:i≤s.length):i≤gapW s i∧gapW s i≤s.length:=by
 unfold gapW;have h1:=qAg (s.length+1) (s.drop i);rw[yK] at h1;omega
theorem qlH (s:LU) (hl:s.length≤1048576) (N:Nat):∀ (n i:Nat),i≤s.length→s.length - i < n →
 qui qyD (qpC N) n s (i:Int)=qyD (gapW s i:Nat)
 | 0,i,hi,hn=>by omega
 | n+1,i,hi,hn=>by
  show qli _ _ _ n _ _=_;unfold qli qaY
  by_cases hlt:i < s.length
  ·have hd:=qx (d:=(0:UInt8)) hlt;have hp:1≤(overC (s.drop i)).1:=by rw[hd];exact qhM _ _
   have hle:(overC (s.drop i)).1≤s.length - i:=by have:=qlF (s.drop i) (0,(0,(false,())));rw[yK] at this;exact this
   have ih:=qlH s hl N n (i+1) (by omega) (by omega);have ih2:=qlH s hl N n (i+(overC (s.drop i)).1) (by omega) (by omega);rw[qfx s i hlt];have hok:qGo (s.drop i)=true:=qe (by rw[yK];omega);simp (disch:=omega) only [dT,yc,yi,y6,tn,ql,List.take_length,hok];cases e0:s.getD i 0==40 with
   | true =>
    simp only[yc];rw[show (z34 (s.drop i)).1=(((overC (s.drop i)).1:Nat):Int) from rfl,show (i:Int)+(((overC (s.drop i)).1:Nat):Int)=((i+(overC (s.drop i)).1:Nat):Int) from by omega,qgU (by omega),ih2]
   | false =>
    simp only[yd];rw[show blkB (s.getD i 0)=(z35 (s.getD i 0) 2||(s.getD i 0==13||s.getD i 0==10)) from rfl];cases e2:s.getD i 0==13 with
    | true=>simp only[yc,Bool.true_or,Bool.or_true];exact ih
    | false =>
     cases e3:s.getD i 0==10 with
     | true=>simp only[yc,yd,Bool.or_true];exact ih
     | false =>
      cases e1:z35 (s.getD i 0) 2 with
      | true=>simp only[yc,yd,Bool.true_or];exact ih
      | false=>rfl
  ·rw[dF (by omega),qLY s i (by omega)];rfl
theorem qLZ:∀ (s0:LU) (at1:Int),(qdy s0 at1=true)→∃ n,qKx n s0 at1=qyD (z22 s0 at1):=fun s i h=>⟨s.length+1,by
 have:=qgD s i;exact qlH s (qf h) _ (s.length+1) (qw s i) this (by omega)⟩
theorem qki (s:LU) (hl:s.length≤1048576) (i0:Int) (k0:LU→Int→Int→OA):∀ (d i n:Nat),i+d=s.length→d < n →
 quj k0 n s i0 (i:Int)=k0 s i0 ((i+(tokN s i).length:Nat):Int)
 | d,i,0,hi,hn=>by omega
 | 0,i,n+1,hi,hn=>by
  show qgd _ _ n _ _ _=_;unfold qgd;rw[dF (by omega),qRe s i (by omega)];rfl
 | d+1,i,n+1,hi,hn=>by
  show qgd _ _ n _ _ _=_;unfold qgd;have hlt:i < s.length:=by omega
  have ih:=qki s hl i0 k0 d (i+1) n (by omega) (by omega);rw[qSX s i hlt];simp (disch:=omega) only [dT,yc,yi,tn,ql];cases z35 (s.getD i 0) 64 with
  | true =>
   rw[yc,yc,ih,yg];congr 2;omega
  | false=>rfl
theorem qMa:∀ (s0:LU) (at1:Int),(qjv s0 at1=true)→∃ n,qDX n s0 at1=qrM (z36 s0 at1).1 (z36 s0 at1).2.1 (z36 s0 at1).2.2:=fun s i h=>⟨s.length+1,by
 unfold qDX z36 qF z33;have hl:=qf h;have hc:=qgD s i;have hk:=qLT s _ hc;rw[qki s hl _ _ (s.length - qw s i) (qw s i) (s.length+1) (by omega) (by omega)];unfold qpD;rw[qkg,qkg];cases qw s i==s.length with
 | true=>rfl
 | false =>
  rw[yd,yd];cases e:(tokN s (qw s i)).isEmpty with
  | true =>
   have:=List.isEmpty_iff.1 e;rw[this];simp
  | false =>
   have hp:0 < (tokN s (qw s i)).length:=by
    cases e2:tokN s (qw s i) with
    | nil=>rw[e2] at e;cases e
    | cons _ _=>exact Nat.zero_lt_succ _
   rw[beq_eq_false_iff_ne.2 (show qw s i+(tokN s (qw s i)).length≠qw s i by omega)];simp (disch:=omega) only [dT,yc,yd,yi,tn];rw[qLU s _ hc,show qaH (tokN s (qw s i))=true from qe (by omega)];rfl⟩
theorem qMb:∀ (s0:LU) (at1:Int) (c2:UInt8),(qnW s0 at1 c2=true)→∃ n,qQc n s0 at1 c2=qrL (z24 s0 at1 c2).1 (z24 s0 at1 c2).2:=fun s i c h=>⟨0,by
 unfold qQc z24;have hl:s.length≤1048576:=qf h;have hc:=qgD s i;have hg:=qHZ s _ hc;rw[show qdy s i=true from h];unfold z22 z33;rw[qkg]
 by_cases h1:gapW s (qw s i) < s.length
 ·rw[beq_eq_false_iff_ne.2 (by omega:gapW s (qw s i)≠s.length)];simp (disch:=omega) only [dT,yc,yd,yi,y6,tn,ql];unfold bne;cases s.getD (gapW s (qw s i)) 0==c <;> rfl
 ·rw[dF h1,beq_iff_eq.2 (by omega:gapW s (qw s i)=s.length)];rfl⟩
theorem qhN (ret:LU→Int→Int→OA) (k0:OA) (s:LU) (hl:s.length≤1048576):∀ (d i n:Nat) (out:LU),i+d=s.length→d < n→out.length≤i →
 (qgQ ret k0 n out false s ((s.length:Nat):Int) (i:Int)=match unqG (s.drop i) with | some x=>ret (out++x.1) ((i+x.2+1:Nat):Int) 0 | none=>k0)
 | d,i,0,out,hi,hn,_=>by omega
 | 0,i,n+1,out,hi,hn,_=>by
  show qaB _ _ _ n _ _ _ _ _=_;unfold qaB qM;rw[dF (by omega),yA (by omega),qnH];rfl
 | 1,i,n+1,out,hi,hn,ho=>by
  show qaB _ _ _ n _ _ _ _ _=_;unfold qaB qM;have hlt:i < s.length:=by omega
  rw[qx (d:=(0:UInt8)) hlt];have hr1:out.length+([s.getD i 0]:LU).length≤room:=by unfold room;simp;omega
  have ih:=qhN ret k0 s hl 0 (i+1) n (out++[s.getD i 0]) (by omega) (by omega) (by rw[yn];simp;omega);rw[yA (by omega:s.length≤i+1),qnH] at ih;simp (disch:=omega) only [dT,yc,yd,yi,tn,ql];rw[yA (by omega:s.length≤i+1),qsD];cases s.getD i 0==34 with
  | true =>
   rw[show (i:Int)+2=((i+2:Nat):Int) from by omega,qgU (by omega)];show _=ret (out++[]) _ 0;rw[yG];rfl
  | false =>
   simp only[yd];cases e2:s.getD i 0==92 with
   | true =>
    obtain⟨m,rfl⟩:∃ m,n=m+1:=⟨n - 1,by omega⟩;show qaB _ _ _ m _ _ _ _ _=_;unfold qaB qM;rw[dF (by omega)];rfl
   | false =>
    simp only[yd];rw[ih]
 | d+2,i,n+1,out,hi,hn,ho=>by
  show qaB _ _ _ n _ _ _ _ _=_;unfold qaB qM;have hlt:i < s.length:=by omega
  have hlt':i+1 < s.length:=by omega
  obtain⟨m,rfl⟩:∃ m,n=m+1:=⟨n - 1,by omega⟩;have ih:=qhN ret k0 s hl (d+1) (i+1) (m+1) (out++[s.getD i 0]) (by omega) (by omega) (by rw[yn];simp;omega);have ih2:=qhN ret k0 s hl d (i+2) m (out++[s.getD (i+1) 0]) (by omega) (by omega) (by rw[yn];simp;omega);have hd:=qx (d:=(0:UInt8)) hlt';rw[qx (d:=(0:UInt8)) hlt];have hr1:out.length+([s.getD i 0]:LU).length≤room:=by unfold room;simp;omega
  have hr2:out.length+([s.getD (i+1) 0]:LU).length≤room:=by unfold room;simp;omega
  simp (disch:=omega) only [dT,yc,yd,yi,tn,ql];cases e1:s.getD i 0==34 with
  | true =>
   rw[eq_of_beq e1,qlD,show (i:Int)+2=((i+2:Nat):Int) from by omega,qgU (by omega)];show _=ret (out++[]) _ 0;rw[yG];rfl
  | false =>
   cases e2:s.getD i 0==92 with
   | true =>
    rw[hd,eq_of_beq e2,qsE];simp only[yd,yc];show qaB _ _ _ m _ _ _ _ _=_;unfold qaB qM;simp (disch:=omega) only [dT,yc,yd,yi,tn,ql];rw[show qgQ ret k0 m (out++[s.getD (i+1) 0]) false s ((s.length:Nat):Int) ((i+1+1:Nat):Int)=_ from ih2];cases unqG (s.drop (i+2)) with
    | none=>rfl
    | some x=>simp only[yU,yl,List.singleton_append];congr 2;omega
   | false =>
    rw[qlE _ _ e1 e2];simp only[yd];rw[ih];cases unqG (s.drop (i+1)) with
    | none=>rfl
    | some x=>simp only[yU,yl,List.singleton_append];congr 2;omega
theorem qFu:∀ (s0:LU),(qkq s0=true)→∃ n,qsf n s0=qrM (z117 s0).1 (z117 s0).2.1 (z117 s0).2.2:=fun s h=>⟨s.length+1,by
 unfold qsf;have hl:=qf h;cases s with
 | nil=>rfl
 | cons c r =>
  rw[yg] at hl;rw[show ((((c :: r).length:Nat):Int)==0)=false from by rw[yB];simp only[yg];omega];rw[dT (show (0:Int) < (((c :: r).length:Nat):Int) by simp only[yg];omega),dT (show (1:Int)≤(((c :: r).length:Nat):Int) by simp only[yg];omega)];simp only[yd,yc,yi,dT (show (0:Int)≤0 by omega),dT (show (0:Int)≤1 by omega),dT (Int.le_refl _)];show (bif c != 34 then _ else _)=_;rw[show z117 (c :: r)=bif c != 34 then ([],(0,3)) else unqR (unqG r) from rfl];cases c != 34 with
  | true=>rfl
  | false =>
   simp only[yd];rw[qqk,show toNat 1=1 from rfl,List.drop_one,List.tail_cons];have:=qhN qrM (qhC ((c :: r).length+1)) r (by omega) r.length 0 ((c :: r).length+1) [] (by omega) (by simp only[yg];omega) (by simp);rw[show qgQ qrM (qhC ((c :: r).length+1)) ((c :: r).length+1) [] false r ((r.length:Nat):Int) 0=_ from this,yw];cases unqG r with
   | none=>rfl
   | some x=>simp only[unqR,List.nil_append,yE]⟩
theorem qMc:∀ (s0:LU) (at1:Int),(qGp s0 at1=true)→∃ n,qQn n s0 at1=qrM (z87 s0 at1).1 (z87 s0 at1).2.1 (z87 s0 at1).2.2:=fun s i h=>⟨0,by
 unfold qQn qdP z87 qbi z33;have hl:=qf h;have hc:=qgD s i;rw[qqk,qkg,show ∀ j,qjv s j=true from fun _=>h];have hcc:qF s ((qw s i:Nat):Int)=qF s i:=by
  unfold qF;rw[show qw s ((qw s i:Nat):Int)=qw s i from by unfold qw;omega]
 unfold z36;rw[hcc];cases e:qw s i==s.length with
 | true=>rfl
 | false =>
  have hne:qw s i≠s.length:=beq_eq_false_iff_ne.1 e;have hu:=qkh (s.drop (qw s i));rw[yK] at hu;simp (disch:=omega) only [dT,yc,yd,yi,Bool.false_or,tn];cases s.getD (qw s i) 0 != 34 with
  | true=>rfl
  | false =>
   simp only[yd];rw[show qkq (s.drop (qw s i))=true from qe (by rw[yK];omega)];simp only[yi,yc];unfold z117;cases (qB (s.drop (qw s i))).2.2 != 0 with
   | true=>rfl
   | false =>
    simp only[yd];rw[IntWalk.i64_in _ (by omega)]⟩
theorem qjb (x:UInt8):∀ s:LU,Lib.indexByte s x=match chN x s with | some k=>(k:Int) | none => -1
 | []=>rfl
 | c :: r=>by
  unfold Lib.indexByte chN;rw[qjb x r];cases c==x with
  | true=>rfl
  | false =>
   cases chN x r with
   | none=>rfl
   | some k =>
    simp only[yq,if_false,yd,yU];rw[if_neg (by rw[beq_iff_eq];omega)];rfl
theorem ch_lt {x:UInt8}:∀ {s:LU} {k:Nat},chN x s=some k→k < s.length
 | [],k,h=>by cases h
 | c :: r,k,h=>by
  unfold chN at h;cases e:c==x with
  | true=>rw[e] at h;cases h;simp
  | false =>
   rw[e,yd] at h;obtain⟨j,hj,rfl⟩:=Option.map_eq_some_iff.1 h;have:=ch_lt hj;rw[yg];omega
theorem qIa:∀ s:LU,starN s=chN 42 s
 | []=>rfl
 | c :: r=>by unfold starN chN;rw[qIa r]
theorem qMd (s:LU) (x:UInt8):z109 s [x]=match chN x s with | some k=>(s.take k,s.drop (k+1),true) | none=>(s,[],false):=by
 unfold z109;rw[Lib.index_one,qjb];cases chN x s with
 | none=>rfl
 | some k =>
  simp only[dT (show (0:Int)≤(k:Int) by omega),yc,tn];rfl
theorem qAh (x:UInt8) (h:s.length≤1048576):qgY s [x]=true:=by
 unfold qgY;rw[qe h];rfl
theorem qSZ {r:LU} {x:LU×Nat} (h:unqG r=some x):x.2≤r.length∧0 < x.2:=qhL r.length r (yv _) x h
theorem qfy (c:UInt8) (r:LU):overP (c :: r)=bif c==34 then (match unqG r with | some x=>x.2+1 | none=>r.length+1) else bif c==40 then gapW (c :: r) 0 else 1:=rfl
theorem qMe:∀ s:LU,s≠[]→1≤overP s∧overP s≤s.length
 | [],h=>absurd rfl h
 | c :: r,_=>by
  rw[qfy]
  by_cases e1:c=34
  ·rw[beq_iff_eq.2 e1,yc];cases e:unqG r with
   | none=>simp
   | some x=>have:=qSZ e;simp only[yg];omega
  ·rw[beq_eq_false_iff_ne.2 e1,yd]
   by_cases e2:c=40
   ·rw[beq_iff_eq.2 e2,yc];have h1:=qfx (c :: r) 0 (by simp);rw[show (c :: r).getD 0 0=c from rfl,beq_iff_eq.2 e2,yc] at h1;have h2:(overC ((c :: r).drop 0)).1≤(c :: r).length:=qlF (c :: r) _;have h3:=qHZ (c :: r) (0+(overC ((c :: r).drop 0)).1) (by omega);have h4:1≤(overC ((c :: r).drop 0)).1:=qhM c r;omega
   ·rw[beq_eq_false_iff_ne.2 e2,yd];simp
theorem qMf:∀ (s0:LU),(quT s0=true)→∃ n,qQm n s0=qyD (z86 s0):=fun s h=>⟨0,by
 unfold quT at h;rw[yf] at h;have hl:=qf h.1;unfold qQm;cases s with
 | nil=>exact absurd h.2 (by decide)
 | cons c r =>
  rw[dT (show (0:Int) < (((c :: r).length:Nat):Int) by simp only[yg];omega)];simp only[yc,yi,dT (show (0:Int)≤0 by omega)];rw[show (getD (c :: r) (toNat 0) 0)=c from rfl,show qkq (c :: r)=true from h.1,show qdy (c :: r) 0=true from h.1];unfold z86;rw[qfy]
  by_cases e1:c=34
  ·rw[beq_iff_eq.2 e1,yc,yc];rw[show z117 (c :: r)=unqR (unqG r) from by show (bif c != 34 then _ else _)=_;rw[bne,beq_iff_eq.2 e1];rfl];cases e:unqG r with
   | none=>rfl
   | some x=>rfl
  ·rw[beq_eq_false_iff_ne.2 e1,yd,yd]
   by_cases e2:c=40
   ·rw[beq_iff_eq.2 e2];rfl
   ·rw[beq_eq_false_iff_ne.2 e2];rfl⟩
theorem qMg:∀ (part0:LU),(qGs part0=true)→∃ n,qQo n part0=qga (z88 part0):=fun p h=>⟨0,by
 unfold qQo;rw[show qdy p 0=true from h];show qga (((gapW p (qw p 0):Nat):Int)==((p.length:Nat):Int))=_;rw[qkg,show qw p 0=0 from by unfold qw;simp];rfl⟩
theorem dig0:∀ i:Fin 256,(!(z35 (ofNat i.val) 8)||(decide ((ofNat i.val - 48).toNat=(ofNat i.val).toNat - 48)&&decide ((ofNat i.val).toNat - 48≤9)))=true:=by decide +kernel
theorem qTa (c:UInt8) (h:z35 c 8=true):(c - 48).toNat=c.toNat - 48∧c.toNat - 48≤9:=by
 have:=qny (P:=fun c=>(!(z35 c 8)||(decide ((c - 48).toNat=c.toNat - 48)&&decide (c.toNat - 48≤9)))=true) dig0 c;rw[h] at this;simpa using this
theorem qkj (s:LU) (hl:s.length≤3) (hd:s.all (fun c=>z35 c 8)=true) (N:Nat):∀ (d i n a:Nat),i+d=s.length→d < n→a*10 ^ d < 1000 →
 qgR (qfn N) n (a:Int) s ((s.length:Nat):Int) (i:Int)=qyD (((s.drop i).foldl (fun a c=>a*10+(c.toNat - 48)) a:Nat):Int)
 | d,i,0,a,hi,hn,_=>by omega
 | 0,i,n+1,a,hi,hn,_=>by
  show qbW _ _ n _ _ _ _=_;unfold qbW;rw[dF (by omega),yA (by omega)];rfl
 | d+1,i,n+1,a,hi,hn,ha=>by
  show qbW _ _ n _ _ _ _=_;unfold qbW;have hlt:i < s.length:=by omega
  have hc:z35 (s.getD i 0) 8=true:=by rw[qgT hlt];exact List.all_eq_true.1 hd _ (List.getElem_mem hlt)
  obtain⟨h1,h2⟩:=qTa _ hc;have hp:a*10*10 ^ d < 1000:=by rw[Nat.mul_assoc,← Nat.pow_succ'];exact ha
  have ha3:a*10 < 1000:=Nat.lt_of_le_of_lt (Nat.le_mul_of_pos_right _ (Nat.pow_pos (by omega))) hp;rw[qx (d:=(0:UInt8)) hlt,List.foldl_cons];have e1:wrap .i64 (wrap .i64 (10*(a:Int))+wrap .i64 (((s.getD i 0 - 48).toNat:Nat):Int))=((a*10+((s.getD i 0).toNat - 48):Nat):Int):=by
   rw[h1,IntWalk.i64_in (10*(a:Int)) (by omega),IntWalk.i64_in (((((s.getD i 0).toNat - 48):Nat):Int)) (by omega),IntWalk.i64_in _ (by omega)];omega
  simp (disch:=omega) only [dT,yc,yi,tn,ql];rw[e1]
  by_cases hd0:d=0
  ·subst hd0;obtain⟨m,rfl⟩:∃ m,n=m+1:=⟨n - 1,by omega⟩;show qbW _ _ m _ _ _ _=_;unfold qbW;rw[dF (by omega),yA (by omega)];rfl
  ·refine qkj s hl hd N d (i+1) n _ (by omega) (by omega) ?_;have h9:(a*10+((s.getD i 0).toNat - 48))*10 ^ d < (a+1)*10 ^ (d+1):=by
    have:a*10+((s.getD i 0).toNat - 48) < (a+1)*10:=by omega
    calc (a*10+((s.getD i 0).toNat - 48))*10 ^ d < (a+1)*10*10 ^ d:=Nat.mul_lt_mul_of_pos_right this (Nat.pow_pos (by omega))
     _=(a+1)*10 ^ (d+1):=by rw[Nat.mul_assoc,← Nat.pow_succ']
   have hd3:d=1∨d=2:=by omega
   rcases hd3 with rfl | rfl
   ·simp only[Nat.pow_succ,Nat.pow_zero,Nat.one_mul] at ha h9 ⊢;omega
   ·simp only[Nat.pow_succ,Nat.pow_zero,Nat.one_mul] at ha h9 ⊢;omega
theorem qIb (s:LU):(((s.length:Nat):Int)==0)=s.isEmpty:=by cases s <;> simp <;> omega
theorem qFv:∀ (s0:LU),(qts s0=true)→∃ n,qsg n s0=qyD (z119 s0):=fun s h=>⟨4,by
 unfold qsg z119;rw[qIb];cases e0:s.isEmpty with
 | true=>rfl
 | false =>
  by_cases h3:3 < s.length
  ·rw[dT (by omega:(3:Int) < ((s.length:Nat):Int)),dT h3];rfl
  ·rw[dF (by omega:¬ (3:Int) < ((s.length:Nat):Int)),dF h3,show qju s 8=true from h];have hp:0 < s.length:=by cases s with | nil=>exact absurd e0 (by decide) | cons _ _=>simp
   simp only[yd,yc,yi,Bool.false_or];cases ha:z31 s 8 with
   | false=>rfl
   | true =>
    have hloop:qgR (qfn 4) 4 (0:Int) s ((s.length:Nat):Int) (0:Int)=qyD (numV s):=by
     have:=qkj s (by omega) ha 4 s.length 0 4 0 (by omega) (by omega) (by simp);rw[yw] at this;exact this
    rw[hloop];simp (disch:=omega) only [dT,yc,yi,Bool.not_true,Bool.false_or,tn];rw[show toNat 0=0 from rfl];cases s.getD 0 0==48 with
    | false=>rfl
    | true =>
     by_cases h1:1 < s.length
     ·rw[dT (by omega:(1:Int) < ((s.length:Nat):Int)),dT h1];rfl
     ·rw[dF (by omega:¬ (1:Int) < ((s.length:Nat):Int)),dF h1];rfl⟩
theorem qRf (s t:LU):(z118 s t).1.length≤s.length:=by
 unfold z118;cases z150 s t with
 | true=>simp only[yc,yz];omega
 | false=>simp
theorem qMh:∀ (a0:LU),(qGr a0=true)→∃ n,qQq n a0=qiM (z89 a0).1 (z89 a0).2.1 (z89 a0).2.2:=fun a h=>⟨0,by
 have hl:=qf h;have hf:(z37 a).length=a.length:=by unfold z37;rw[yP]
 unfold qQq qfo qbm z89;rw[show qeE a=true from h,qAh 42 (by omega),qMd,qIa];simp only[yi,yc];cases e:chN 42 (z37 a) with
 | none=>rfl
 | some k =>
  have hk:=ch_lt e;have ht:((z37 a).take k).length=k:=by rw[yz];omega
  have hd:((z37 a).drop (k+1)).length≤a.length:=by rw[yK];omega
  have hcs:=qRf ((z37 a).drop (k+1)) [42];unfold attrW;simp only[ht,Bool.not_true,yd,qIb];rw[show qju ((z37 a).take k) 256=true from qe (by omega),show qtr ((z37 a).drop (k+1)) [42]=true from qe (by omega),
   show qts (z118 ((z37 a).drop (k+1)) [42]).1=true from qe (by omega),show (((k:Nat):Int)==0)=(k==0) from qkg k 0]
  simp only[yi,yc];cases k==0 with
  | true=>rfl
  | false =>
   cases z31 ((z37 a).take k) 256 with
   | false=>rfl
   | true =>
    cases ((z37 a).drop (k+1)).isEmpty with
    | true=>rfl
    | false =>
     cases z119 (z118 ((z37 a).drop (k+1)) [42]).1 == -1 <;> rfl⟩
theorem qMi:∀ (value0:LU),(qGv value0=true)→∃ n,qQi n value0=qpI (z81 value0).1 (z81 value0).2.1 (z81 value0).2.2:=fun v h=>⟨0,by
 have hl:=qf h;unfold qQi qbU z81;rw[qAh 39 hl,qMd];simp only[yi,yc,show qaH v=true from h];cases e:chN 39 v with
 | none=>rfl
 | some i =>
  have hi:=ch_lt e;simp only[yc];rw[qAh 39 (by rw[yK];omega),qMd];simp only[yc];cases e2:chN 39 (v.drop (i+1)) with
  | none=>rfl
  | some j =>
   simp only[yc];rw[show qaH (v.take i)=true from qe (by rw[yz];omega),show qaH ((v.drop (i+1)).drop (j+1))=true from qe (by rw[yK,yK];omega)];rfl⟩
theorem qdY (n:Nat) (c:UInt8) (r cur:LU):ptsW (n+1) (c :: r) cur=bif c==59 then cur :: ptsW n r [] else ptsW n ((c :: r).drop (overP (c :: r))) (cur++(c :: r).take (overP (c :: r))):=rfl
theorem qgE (N:Nat):∀ (n m:Nat) (s:LU) (i:Nat) (l:List LU),i≤s.length→l.length+s.length≤1048576→s.length - i < n→s.length - i < m →
 qpO (qiL N) n s l (i:Int)=qzd (l++ptsW m (s.drop i) (s.take i))
 | 0,m,s,i,l,_,_,hn,_=>by omega
 | n+1,0,s,i,l,_,_,_,hm=>by omega
 | n+1,m+1,s,i,l,hi,hl,hn,hm=>by
  show qlo _ _ n _ _ _=_;unfold qlo
  by_cases hlt:i < s.length
  ·have hd:=qx (d:=(0:UInt8)) hlt;obtain⟨o1,o2⟩:=qMe (s.drop i) (by rw[hd];simp);rw[yK] at o2;have hko:quT (s.drop i)=true:=by
    unfold quT;rw[qe (by rw[yK];omega),hd];rfl
   have hco:qaH (s.take i)=true:=qe (by rw[yz];omega);have hrm:l.length+([z20 (s.take i)]:List LU).length≤room:=by unfold room;simp;omega
   have ih1:=qgE N n m s (i+overP (s.drop i)) l (by omega) hl (by omega) (by omega);have ih2:=qgE N n m (s.drop (i+1)) 0 (l++[s.take i]) (by omega) (by rw[yn,yK];simp;omega) (by rw[yK];omega) (by rw[yK];omega);have hp:ptsW (m+1) (s.drop i) (s.take i)=bif s.getD i 0==59 then s.take i :: ptsW m (s.drop (i+1)) [] else ptsW m (s.drop (i+overP (s.drop i))) (s.take (i+overP (s.drop i))):=by
    have e1:(s.drop i).drop (overP (s.drop i))=s.drop (i+overP (s.drop i)):=List.drop_drop;have e2:s.take i++(s.drop i).take (overP (s.drop i))=s.take (i+overP (s.drop i)):=List.take_add.symm;rw[← e1,← e2,hd,qdY]
   rw[hp];simp (disch:=omega) only [dT,yc,yi,y6,tn,ql,List.take_length,yw,hko,hco,show toNat ((0:Nat):Int)=0 from rfl];unfold bne;cases s.getD i 0==59 with
   | false =>
    simp only[Bool.not_false,yc,yd];rw[show z86 (s.drop i)=((overP (s.drop i):Nat):Int) from rfl,show (i:Int)+((overP (s.drop i):Nat):Int)=((i+overP (s.drop i):Nat):Int) from by omega,qgU (by omega),ih1]
   | true =>
    simp only[Bool.not_true,yc,yd];have ih2':qpO (qiL N) n (s.drop (i+1)) (l++[z20 (s.take i)]) 0=_:=ih2;rw[ih2',yl];rfl
  ·have e1:s.drop i=[]:=yA (by omega);have e2:s.take i=s:=List.take_of_length_le (by omega);rw[dF (by omega),e1,e2,yd];unfold qiL;rw[show qaH s=true from qe (by omega),dT (show l.length+([z20 s]:List LU).length≤room by unfold room;simp;omega)];rfl
theorem qMj:∀ (s0:LU),(qGq s0=true)→∃ n,qKD n s0=qzd (z58 s0):=fun s h=>⟨s.length+1,by
 have hl:=qf h;exact qgE _ (s.length+1) (s.length+1) s 0 [] (by omega) (by simp;omega) (by omega) (by omega)⟩
theorem qql (s:LU) (i:Int):0≤(qbi s i).2.1∧(qbi s i).2.1≤((s.length:Nat):Int):=by
 have hc:=qgD s i;have hk:=qLT s _ hc;have hu:=qkh (s.drop (qw s i));rw[yK] at hu;unfold qbi;cases (qw s i==s.length)||(s.getD (qw s i) 0 != 34) with
 | true =>
  rw[yc];unfold qF;cases qw s i==s.length with
  | true=>simp
  | false =>
   cases (tokN s (qw s i)).isEmpty with
   | true=>simp
   | false=>simp only[yd];omega
 | false =>
  rw[yd];cases (qB (s.drop (qw s i))).2.2 != 0 with
  | true=>simp
  | false=>simp only[yd];omega
theorem qFw (s:LU) (i:Int):(qF s i).1.length≤s.length:=by
 have hc:=qgD s i;have hk:=qLT s _ hc;unfold qF;cases qw s i==s.length with
 | true=>simp
 | false =>
  cases (tokN s (qw s i)).isEmpty with
  | true=>simp
  | false=>simp only[yd];omega
theorem qMk:∀ (part0:LU),(qGt part0=true)→∃ n,qQr n part0=qjQ (z59 part0).1 (z59 part0).2:=fun p h=>⟨0,by
 have hl:=qf h;unfold qQr qdQ qfq qhD qfp qlp z59;have hG:∀ i,qdy p i=true:=fun _=>h;have hT:∀ i,qjv p i=true:=fun _=>h;have hS:∀ i c,qnW p i c=true:=fun _ _=>h;have hV:∀ i,qGp p i=true:=fun _=>h;have hA:qGr (z36 p (z22 p 0)).1=true:=qe (by have:=qFw p (z22 p 0);exact yL this hl);have hr:=qql p (z22 p (oneSW p).1);have hE:qGs (p.drop (oneVW p).2.1.toNat)=true:=qe (by rw[yK];omega);simp only[hG,hT,hS,hV,hA,yi,yc];rw[show z36 p (z22 p 0)=oneTW p from rfl,show z24 p (oneTW p).2.1 61=oneSW p from rfl,show z87 p (z22 p (oneSW p).1)=oneVW p from rfl];have hr':0≤(oneVW p).2.1∧(oneVW p).2.1≤((p.length:Nat):Int):=hr;cases (oneTW p).2.2 != 0 with
 | true=>rfl
 | false =>
  cases (oneSW p).2 with
  | false=>rfl
  | true =>
   cases (oneVW p).2.2 != 0 with
   | true=>rfl
   | false =>
    simp only[yd,Bool.not_true,Bool.false_or];rw[dT hr'.1,dT hr'.2,dT (Int.le_refl _),qqk,hE];cases z88 (p.drop (oneVW p).2.1.toNat) <;> rfl⟩
theorem qqm:∀ (n:Nat) (s cur:LU),(ptsW n s cur).length≤s.length+1
 | 0,s,cur=>by simp[ptsW]
 | n+1,[],cur=>by simp[ptsW]
 | n+1,c :: r,cur=>by
  rw[qdY];have h1:=qqm n r [];have h2:=qqm n ((c :: r).drop (overP (c :: r))) (cur++(c :: r).take (overP (c :: r)));rw[yK] at h2;cases c==59 with
  | true=>simp only[yc,yg];omega
  | false=>simp only[yd];omega
def totL (l:List LU):Nat:=(l.map List.length).sum
theorem qsG (x:LU) (l:List LU):totL (x :: l)=x.length+totL l:=by simp[totL]
theorem qqn:∀ (n:Nat) (s cur:LU),totL (ptsW n s cur)≤s.length+cur.length
 | 0,s,cur=>by simp[ptsW,totL]
 | n+1,[],cur=>by simp[ptsW,totL]
 | n+1,c :: r,cur=>by
  rw[qdY];have h1:=qqn n r [];have h2:=qqn n ((c :: r).drop (overP (c :: r))) (cur++(c :: r).take (overP (c :: r)));rw[yK,yn,yz] at h2;rw[List.length_nil] at h1;cases c==59 with
  | true=>simp only[yc,qsG,yg];omega
  | false=>simp only[yd];omega
theorem qIc {x:LU}:∀ {l:List LU},x∈l→x.length≤totL l
 | y :: l,h=>by
  rw[qsG];rcases List.mem_cons.1 h with rfl | h
  ·omega
  ·have:=qIc h;omega
theorem qnI (ps:List LU) (hp:∀ x∈ps,x.length≤1048576) (hl:ps.length≤2097152) (N:Nat):∀ (d i n:Nat) (out:List qc),i+d=ps.length→d < n→out.length≤i →
 quk (qlq N) n out ps ((ps.length:Nat):Int) (i:Int)=qzg (out++(ps.drop i).flatMap fun p=>bif (z59 p).2==0 then [(z59 p).1] else [])
 | d,i,0,out,hi,hn,_=>by omega
 | 0,i,n+1,out,hi,hn,_=>by
  show qgg _ _ n _ _ _ _=_;unfold qgg;rw[dF (by omega),yA (by omega)];simp[qlq]
 | d+1,i,n+1,out,hi,hn,ho=>by
  show qgg _ _ n _ _ _ _=_;unfold qgg;have hlt:i < ps.length:=by omega
  have ih:=qnI ps hp hl N d (i+1) n;have hok:qGt (ps.getD i [])=true:=qe (by rw[qgT hlt];exact hp _ (List.getElem_mem hlt));rw[qx (d:=([]:LU)) hlt,List.flatMap_cons];simp (disch:=omega) only [dT,yc,yi,y6,tn,ql,hok];cases (z59 (ps.getD i [])).2==0 with
  | true =>
   simp only[yc];rw[dT (show out.length+([(z59 (ps.getD i [])).1]:List qc).length≤room by unfold room;simp;omega),yc,ih _ (by omega) (by omega) (by rw[yn];simp;omega),yl]
  | false =>
   simp only[yd];rw[ih _ (by omega) (by omega) (by omega),List.nil_append]
theorem qMl:∀ (s0:LU),(qGu s0=true)→∃ n,qEb n s0=qzg (z39 s0):=fun s h=>⟨(z58 s).length+1,by
 have hl:=qf h;unfold qEb;have h1:=qqm (s.length+1) s [];have h2:=qqn (s.length+1) s [];rw[show qGq s=true from h];exact qnI (z58 s) (fun x hx=>by have:=qIc hx;unfold z58 at this;rw[List.length_nil] at h2;omega) (by unfold z58;omega) _ (z58 s).length 0 _ [] (by omega) (by omega) (by simp)⟩
theorem qAi (s:LU) (i:Nat) (x:UInt8) (h:i < s.length):z166 s (i:Int) x=z166 (s.drop i) 0 x:=by
 unfold z166 qAN;rw[yK,tn,show toNat 0=0 from rfl,dT (by omega:(0:Int)≤(i:Int)),dT (by omega:(0:Int)≤0)];rw[show decide ((i:Int)≤(s.length:Int) - 3)=decide ((0:Int)≤((s.length - i:Nat):Int) - 3) from by rw[decide_eq_decide];omega];simp[getD,List.getElem?_drop]
theorem qAj {x:UInt8} (h:(z166 s (i:Int) x).2=true):i+3≤s.length:=by
 unfold z166 at h
 by_cases h2:(i:Int)≤(s.length:Int) - 3
 ·omega
 ·rw[dF h2,y4] at h;cases h
theorem qhO:∀ (k:Nat) (r:LU),pctS k r=pctS 0 (r.drop k)
 | 0,r=>by rw[yw]
 | k+1,[]=>by simp[pctS]
 | k+1,c :: r=>by rw[List.drop_succ_cons];exact qhO k r
theorem qhP (x:UInt8) (r:LU):pctS 0 (x :: r)=bif (z166 (x :: r) 0 37).2 then (z166 (x :: r) 0 37).1 :: pctS 2 r else x :: pctS 0 r:=by conv=>lhs;unfold pctS
theorem qAk:∀ (m:Nat) (s:LU),s.length≤m→(pctS 0 s).length≤s.length
 | 0,[],_=>by simp[pctS]
 | m+1,[],_=>by simp[pctS]
 | m+1,c :: r,h=>by
  rw[yg] at h;rw[qhP,qhO 2];have h1:=qAk m (r.drop 2) (by rw[yK];omega);have h2:=qAk m r (by omega);rw[yK] at h1;cases (z166 (c :: r) 0 37).2 with
  | true=>simp only[yc,yg];omega
  | false=>simp only[yd,yg];omega
theorem qId (s:LU):(z110 s).length≤s.length:=qAk s.length s (yv _)
theorem qFx:∀ (c0:UInt8) (x1:Bool) (x2:LU),(qnX c0 x1 x2=true)→∃ n,qyU n c0 x1 x2=qyT (z145 c0 x1 x2):=fun c b out h=>⟨0,by
 have h:=of_decide_eq_true h;unfold qyU;rw[dT (show out.length+([c]:LU).length≤room by unfold room;simp;omega)];rfl⟩
theorem qlI (s:LU) (hl:s.length≤1048576) (N:Nat):∀ (n i:Nat) (out:LU),i≤s.length→s.length - i < n→out.length+(s.length - i)≤2097152 →
 qcm (qes N) n s (i:Int) out=qcl (out++pctS 0 (s.drop i))
 | 0,i,out,hi,hn,_=>by omega
 | n+1,i,out,hi,hn,ho=>by
  show qcK _ _ n _ _ _=_;unfold qcK
  by_cases hlt:i < s.length
  ·have hd:=qx (d:=(0:UInt8)) hlt;have ht:=qAi s i 37 hlt;have hok:qsY s (i:Int) 37=true:=qe hl;have hok1:∀ c b,qnX c b out=true:=fun _ _=>dT (by omega);rw[hd,qhP,← hd,← ht];simp (disch:=omega) only [dT,yc,yi,y6,tn,ql,hok,hok1];cases e:(z166 s (i:Int) 37).2 with
   | false =>
    simp only[Bool.not_false,yc,yd];have ih:=qlI s hl N n (i+1) (out++[s.getD i 0]) (by omega) (by omega) (by rw[yn];simp;omega);rw[show z145 (s.getD i 0) false out=out++[s.getD i 0] from rfl,ih,yl];rfl
   | true =>
    have h3:=qAj e;simp only[Bool.not_true,yc,yd];have ih:=qlI s hl N n (i+3) (out++[(z166 s (i:Int) 37).1]) (by omega) (by omega) (by rw[yn];simp;omega);rw[show z145 (z166 s (i:Int) 37).1 true out=out++[(z166 s (i:Int) 37).1] from rfl,qgU (by omega : -1000000001≤(i:Int)+2∧(i:Int)+2≤1000000001),show (i:Int)+2+1=((i+3:Nat):Int) from by omega,qgU (by omega),ih,yl,qhO 2,List.drop_drop];rw[show i+1+2=i+3 by omega];rfl
  ·have e1:s.drop i=[]:=yA (by omega);rw[dF (by omega),e1,yd];show qcl out=qcl (out++[]);rw[yG]
theorem qqo:∀ (s0:LU) (f1:LU),(qcy s0 f1=true)→∃ n,qiF n s0 f1=qcl (qAU s0 f1):=fun s out h=>⟨s.length+1,by
 unfold qcy at h;rw[yf,ym] at h;have hl:=qf h.1;exact qlI s hl _ (s.length+1) 0 out (by omega) (by omega) (by omega)⟩
theorem qFy:∀ (s0:LU),(qtt s0=true)→∃ n,qyW n s0=qpG (z110 s0):=fun s h=>⟨0,by
 unfold qyW;have h':lenOk s=true:=h;rw[show qcy s []=true from by unfold qcy;rw[h'];rfl];rfl⟩
theorem qMm:∀ (p0:qc),(qjw p0=true)→∃ n,qQj n p0=qpG (z83 p0):=fun p h=>⟨0,by
 unfold qQj;rw[show qtt p.2.2.2.1=true from h];show _=qpG (qcz p);unfold qcz;cases p.2.2.1 <;> rfl⟩
theorem qsH (p:qc):(qcz p).length≤p.2.2.2.1.length:=by
 unfold qcz;cases p.2.2.1 with
 | true=>exact qId _
 | false=>exact yv _
theorem qMn (v:LU):(z81 v).1.length≤v.length∧(z81 v).2.1.length≤v.length:=by
 unfold z81;split
 ·simp
 ·split
  ·simp
  ·simp only[yz,yK];omega
def valL (l:List qc):Nat:=(l.map fun p=>p.2.2.2.1.length).sum
theorem qfz (p:qc) (l:List qc):valL (p :: l)=p.2.2.2.1.length+valL l:=by simp[valL]
theorem qIe {p:qc}:∀ {l:List qc},p∈l→p.2.2.2.1.length≤valL l
 | q :: l,h=>by
  rw[qfz];rcases List.mem_cons.1 h with rfl | h
  ·omega
  ·have:=qIe h;omega
abbrev par0:qc:=([],(0,(false,([],()))))
theorem qsI (ls:List qc) (hl:ls.length≤1048576) (hv:valL ls≤1048576) (k0:qc→Int→LU→OA) (f:qc) (cs:Int):∀ (d i n:Nat) (out:LU),i+d=ls.length→d < n→out.length+valL (ls.drop i)≤2097152 →
 qef k0 n f cs out ls ((ls.length:Nat):Int) (i:Int)=k0 f cs (out++(ls.drop i).flatMap qcz)
 | d,i,0,out,hi,hn,_=>by omega
 | 0,i,n+1,out,hi,hn,_=>by
  show qdM _ _ n _ _ _ _ _ _=_;unfold qdM qbL;have e1:ls.drop i=[]:=yA (by omega);rw[dF (by omega),e1,yd,List.flatMap_nil,yG]
 | d+1,i,n+1,out,hi,hn,ho=>by
  show qdM _ _ n _ _ _ _ _ _=_;unfold qdM qbL;have hlt:i < ls.length:=by omega
  have hd:=qx (d:=par0) hlt;have hle:=qsH (ls.getD i par0);have hm:(ls.getD i par0).2.2.2.1.length≤valL ls:=qIe (by rw[qgT hlt];exact List.getElem_mem hlt);rw[hd,qfz] at ho;have ih:=qsI ls hl hv k0 f cs d (i+1) n (out++qcz (ls.getD i par0)) (by omega) (by omega) (by rw[yn];omega);have hok:qjw (ls.getD i par0)=true:=qe (by omega);rw[hd,List.flatMap_cons,← yl];simp (disch:=omega) only [dT,yc,yi,y6,tn,ql,hok];rw[show z83 (ls.getD i par0)=qcz (ls.getD i par0) from rfl,dT (show out.length+(qcz (ls.getD i par0)).length≤room by unfold room;omega),yc];exact ih
theorem qMo:∀ (l0:List qc),(quV l0=true)→∃ n,qDZ n l0=qHn (z57 l0):=fun l h=>⟨l.length+1,by
 unfold quV at h;simp only[yf,ym] at h;obtain⟨⟨h1,h2⟩,h3⟩:=h;cases l with
 | nil=>exact absurd h2 (by decide)
 | cons p r =>
  obtain⟨pn,num,ext,v,u⟩:=p;have h3':v.length+valL r≤1048576:=by have:valL ((pn,(num,(ext,(v,u)))) :: r)≤1048576:=h3;rw[qfz] at this;exact this
  have hr1:r.length≤1048576:=by unfold psOk at h1;simp only[yf,ym,yg] at h1;omega
  have hh:=qMn v;have hL:∀ (f:qc) (cs:Int) (s:LU),s.length≤v.length→qef (qaQ (((pn,(num,(ext,(v,u)))) :: r:List qc).length+1)) (((pn,(num,(ext,(v,u)))) :: r:List qc).length+1) f cs s r ((r.length:Nat):Int) 0=qaQ (((pn,(num,(ext,(v,u)))) :: r:List qc).length+1) f cs (s++r.flatMap qcz):=fun f cs s hs=>by
   have:=qsI r hr1 (by omega) (qaQ (((pn,(num,(ext,(v,u)))) :: r:List qc).length+1)) f cs r.length 0 (((pn,(num,(ext,(v,u)))) :: r:List qc).length+1) s (by omega) (by simp;omega) (by rw[yw];omega);rw[yw] at this;exact this
  have hf:∀ (q:List qc),(q.flatMap qcz).length≤valL q:=fun q=>by
   induction q with
   | nil=>simp[valL]
   | cons x q ih=>have:=qsH x;rw[List.flatMap_cons,yn,qfz];omega
  have hfr:=hf r;have hk:∀ (f:qc) (cs:Int) (s:LU),s.length≤v.length→f.2.2.1=true→qaQ (((pn,(num,(ext,(v,u)))) :: r:List qc).length+1) f cs (s++r.flatMap qcz)=qHn (z84 cs (s++r.flatMap qcz)):=fun f cs s hs he=>by
   unfold qaQ;rw[he,show qGf cs (s++r.flatMap qcz)=true from qe (by rw[yn];omega)];rfl
  unfold qDZ qdN qbl qal qU;rw[dT (show (0:Int) < ((((pn,(num,(ext,(v,u)))) :: r:List qc).length:Nat):Int) by simp only[yg];omega),dT (show (1:Int)≤((((pn,(num,(ext,(v,u)))) :: r:List qc).length:Nat):Int) by simp only[yg];omega),dT (show (0:Int)≤0 by omega),dT (show (0:Int)≤1 by omega),dT (Int.le_refl ((((pn,(num,(ext,(v,u)))) :: r:List qc).length:Nat):Int))];rw[show (List.drop (toNat 1) (List.take (toNat ((((pn,(num,(ext,(v,u)))) :: r:List qc).length:Nat):Int)) ((pn,(num,(ext,(v,u)))) :: r)))=r from by rw[tn,List.take_length];rfl];rw[show (getD ((pn,(num,(ext,(v,u)))) :: r) (toNat 0) (([]:LU),((0:Int),(false,(([]:LU),())))))=(pn,(num,(ext,(v,u)))) from rfl];rw[show qGv v=true from qe (by omega),show qGi (z81 v).1=true from qe (by omega)];simp only[yi,yc];cases ext with
  | false =>
   simp only[yd];rw[show qjw (pn,(num,(false,(v,u))))=true from qe (by show v.length≤_;omega),show qqB (z83 (pn,(num,(false,(v,u)))))=true from qe (by show v.length≤_;omega)];simp only[yc];rw[show z82 (z83 (pn,(num,(false,(v,u)))))=v from rfl,hL _ _ _ (yv _)];unfold qaQ;rw[show quQ (v++r.flatMap qcz)=true from qe (by rw[yn];omega)];rfl
  | true =>
   have hp:=qId (z81 v).2.1;simp only[yc];rw[show qjw (pn,(num,(true,((z81 v).2.1,u))))=true from qe (by show (z81 v).2.1.length≤_;omega),show qqB (z83 (pn,(num,(true,((z81 v).2.1,u)))))=true from qe (by show (z110 (z81 v).2.1).length≤_;omega)];simp only[yc];rw[show z82 (z83 (pn,(num,(true,((z81 v).2.1,u)))))=z110 (z81 v).2.1 from rfl];rw[hL _ _ _ (by omega),hL _ _ _ (by omega),hk _ _ _ (by omega) rfl,hk _ _ _ (by omega) rfl];show _=qHn (z84 (csP (pn,(num,(true,(v,u))))) (z110 (z81 v).2.1++r.flatMap qcz));unfold csP;simp only[y6];cases (z81 v).2.2 with
   | false=>rfl
   | true =>
    cases (z29 (z81 v).1).2==0 <;> rfl⟩
theorem qMp {α:Type} (s:List α):(((s.length:Nat):Int)==0)=s.isEmpty:=by cases s <;> simp <;> omega
theorem qhQ {name:LU} {f:qc→Bool}:∀ {l:List qc} {i:Nat},qm name f l=some i→i < l.length
 | [],i,h=>by cases h
 | p :: l,i,h=>by
  unfold qm at h;cases e:z42 p.1 name&&f p with
  | true=>rw[e] at h;cases h;simp
  | false =>
   rw[e,yd] at h;obtain⟨j,hj,rfl⟩:=Option.map_eq_some_iff.1 h;have:=qhQ hj;rw[yg];omega
theorem qAl (l:List qc) (name:LU):∀ (k:Nat) (n:Int),(numsP l name k n).length≤k∧∀ u∈numsP l name k n,0≤u∧u < ((l.length:Nat):Int)
 | 0,n=>by simp[numsP]
 | k+1,n=>by
  unfold numsP;cases e:qm name (numP n) l with
  | none=>simp
  | some i =>
   have h1:=qhQ e;obtain⟨h2,h3⟩:=qAl l name k (n+1);refine⟨by simp only[yg];omega,fun u hu=>?_⟩;rcases List.mem_cons.1 hu with rfl | hu
   ·omega
   ·exact h3 u hu
theorem qMq (l:List qc) (name:LU):(usedP l name).length≤1001∧∀ u∈usedP l name,0≤u∧u < ((l.length:Nat):Int):=by
 have hn:=qAl l name 1001 0;unfold usedP;cases e1:qm name extP l with
 | some i =>
  have:=qhQ e1;refine⟨by simp,fun u hu=>?_⟩;rw[List.mem_singleton.1 hu];omega
 | none =>
  simp only;cases e2:numsP l name 1001 0 with
  | cons x xs =>
   rw[e2] at hn;cases qm name qaE l <;> exact hn
  | nil =>
   cases e3:qm name qaE l with
   | none=>simp
   | some i =>
    have:=qhQ e3;refine⟨by simp,fun u hu=>?_⟩;rw[List.mem_singleton.1 hu];omega
theorem qMr {l:List qc} {u:LI} (h:∀ x∈u,0≤x∧x < ((l.length:Nat):Int)):∀ p∈pickP l u,p∈l:=fun p hp=>by
 obtain⟨x,hx,rfl⟩:=List.mem_map.1 hp;have:=h x hx;rw[show (([]:LU),((0:Int),(false,(([]:LU),()))))=par0 from rfl,qgT (by omega)];exact List.getElem_mem _
theorem qMs {l m:List qc} (h:psOk l=true) (hm:m.length≤1048576) (hs:∀ p∈m,p∈l):psOk m=true:=by
 unfold psOk at *
 rw[yf] at *
 exact⟨dT hm,List.all_eq_true.2 fun p hp=>List.all_eq_true.1 h.2 p (hs p hp)⟩
theorem qnJ (b:Nat):∀ l:List qc,(∀ p∈l,p.2.2.2.1.length≤b)→valL l≤b*l.length
 | [],_=>by simp[valL]
 | p :: l,h=>by
  have h1:=qnJ b l fun q hq=>h q (List.mem_cons_of_mem _ hq);have h2:=h p List.mem_cons_self;rw[qfz,yg,Nat.mul_succ];omega
theorem qsJ (k2:List qc→List PairT→List (LU×Bool)→LU→List qc→List qc→Int→Int→OA) (l:List qc) (out:List PairT) (met:List (LU×Bool)) (nm:LU) (s13:List qc) (s14 s15:Int)
 (us:LI) (hu:us.length≤1001) (hr:∀ x∈us,0≤x∧x < ((l.length:Nat):Int)):∀ (d i n:Nat) (of9:List qc),i+d=us.length→d < n→of9.length≤i →
 qjP k2 n l out met nm of9 s13 s14 s15 us ((us.length:Nat):Int) (i:Int)=k2 l out met nm (of9++pickP l (us.drop i)) s13 s14 s15
 | d,i,0,of9,hi,hn,_=>by omega
 | 0,i,n+1,of9,hi,hn,_=>by
  show qdO _ _ n _ _ _ _ _ _ _ _ _ _ _=_;unfold qdO;have e1:us.drop i=[]:=yA (by omega);rw[dF (by omega),e1,yd,show pickP l []=[] from rfl,yG]
 | d+1,i,n+1,of9,hi,hn,ho=>by
  show qdO _ _ n _ _ _ _ _ _ _ _ _ _ _=_;unfold qdO;have hlt:i < us.length:=by omega
  have hx:=hr (us.getD i 0) (by rw[qgT hlt];exact List.getElem_mem hlt);have hd:=qx (d:=(0:Int)) hlt;have ih:=qsJ k2 l out met nm s13 s14 s15 us hu hr d (i+1) n (of9++[l.getD (us.getD i 0).toNat par0]) (by omega) (by omega) (by rw[yn];simp;omega);rw[hd,show pickP l (us.getD i 0 :: us.drop (i+1))=l.getD (us.getD i 0).toNat par0 :: pickP l (us.drop (i+1)) from rfl];simp (disch:=omega) only [dT,yc,yi,y6,tn,ql];rw[dT (show of9.length+([l.getD (us.getD i 0).toNat par0]:List qc).length≤room by unfold room;simp;omega)];simp only[yc,yi];rw[ih,yl];rfl
theorem qAm (k' k:LU):∀ x:List (LU×Bool),@findM .str .bool k' (@putM .str .bool k true x)=bif k'==k then some true else @findM .str .bool k' x
 | []=>by
  show (bif k'==k then some true else none)=_;rfl
 | p :: x=>by
  show @findM .str .bool k' (bif k==p.1 then (p.1,true) :: x else p :: @putM .str .bool k true x)=bif k'==k then some true else bif k'==p.1 then some p.2 else @findM .str .bool k' x
  by_cases e:k=p.1
  ·subst e;rw[beq_self_eq_true,yc];show (bif k'==p.1 then some true else @findM .str .bool k' x)=_;cases k'==p.1 <;> rfl
  ·rw[beq_eq_false_iff_ne.2 e,yd];show (bif k'==p.1 then some p.2 else @findM .str .bool k' (@putM .str .bool k true x))=_;rw[qAm k' k x]
   by_cases e2:k'=p.1
   ·rw[beq_iff_eq.2 e2,beq_eq_false_iff_ne.2 (fun h=>e (h.symm.trans e2))];rfl
   ·rw[beq_eq_false_iff_ne.2 e2];rfl
def metOk (x:List (LU×Bool)) (M:List LU):Prop:=∀ k,Option.getD (@findM .str .bool k x) false=M.contains k
theorem qFz {x:List (LU×Bool)} {M:List LU} (h:metOk x M) (k:LU):metOk (@putM .str .bool k true x) (k :: M):=fun k'=>by
 rw[qAm,List.contains_cons];cases k'==k with
 | true=>rfl
 | false=>exact h k'
theorem qsK (l:List qc) (hok:qqC l=true) (N:Nat):∀ (d i n:Nat) (out:List PairT) (x:List (LU×Bool)) (M:List LU),i+d=l.length→d+1100 < n→out.length≤i→metOk x M →
 qpN (qiK N) n l out x l ((l.length:Nat):Int) (i:Int)=qjO (out++joinF l (l.drop i) M)
 | d,i,0,out,x,M,hi,hn,_,_=>by omega
 | 0,i,n+1,out,x,M,hi,hn,_,_=>by
  show qev _ _ n _ _ _ _ _ _=_;unfold qev qae;have e1:l.drop i=[]:=yA (by omega);rw[dF (by omega),e1,yd];show qjO out=qjO (out++[]);rw[yG]
 | d+1,i,n+1,out,x,M,hi,hn,ho,hM=>by
  show qev _ _ n _ _ _ _ _ _=_;unfold qev qae;have hlt:i < l.length:=by omega
  have hd:=qx (d:=par0) hlt;have hok':=hok;unfold qqC at hok';rw[yf,yf,ym] at hok';obtain⟨⟨hps,hll⟩,hvl⟩:=hok';have hmem:l.getD i par0∈l:=by rw[qgT hlt];exact List.getElem_mem hlt
  have hps':=hps;unfold psOk at hps';rw[yf] at hps';have hp:=List.all_eq_true.1 hps'.2 _ hmem;simp only[yf] at hp;have hnl:=qf hp.1;have ih:=fun out' x' M' h1 h2=>qsK l hok N d (i+1) n out' x' M' (by omega) (by omega) h1 h2;have hfl:(z37 (l.getD i par0).1).length=(l.getD i par0).1.length:=by unfold z37;rw[yP]
  have hfo:qeE (l.getD i par0).1=true:=hp.1;have huo:quU l (z37 (l.getD i par0).1)=true:=by
   unfold quU;rw[hps,qe (by omega)];rfl
  rw[hd];show _=qjO (out++bif M.contains (z37 (l.getD i par0).1)||(usedP l (z37 (l.getD i par0).1)).isEmpty then joinF l (l.drop (i+1)) M
   else (z37 (l.getD i par0).1,(z57 (pickP l (usedP l (z37 (l.getD i par0).1))),())) :: joinF l (l.drop (i+1)) (z37 (l.getD i par0).1 :: M))
  simp (disch:=omega) only [dT,yc,yi,y6,tn,ql,hfo,huo];rw[hM (z37 (l.getD i par0).1),show z56 l (z37 (l.getD i par0).1)=usedP l (z37 (l.getD i par0).1) from rfl,qMp];cases M.contains (z37 (l.getD i par0).1) with
  | true=>exact ih out x M (by omega) hM
  | false =>
   cases e:(usedP l (z37 (l.getD i par0).1)).isEmpty with
   | true=>exact ih out x M (by omega) hM
   | false =>
    obtain⟨u1,u2⟩:=qMq l (z37 (l.getD i par0).1);simp only[yd,Bool.or_false];have hloop:=qsJ (qhB (qiK N) (qpN (qiK N) n) n) l out (@putM .str .bool (z37 (l.getD i par0).1) true x) (z37 (l.getD i par0).1) l ((l.length:Nat):Int) (i:Int)
     (usedP l (z37 (l.getD i par0).1)) u1 u2 (usedP l (z37 (l.getD i par0).1)).length 0 n [] (by omega) (by omega) (by simp)
    rw[yw,List.nil_append] at hloop;refine hloop.trans ?_;have hpm:=qMr u2;have hpl:(pickP l (usedP l (z37 (l.getD i par0).1))).length≤1001:=by unfold pickP;rw[yP];exact u1
    have hto:quV (pickP l (usedP l (z37 (l.getD i par0).1)))=true:=by
     unfold quV;rw[qMs hps (by omega) hpm];have h1:=qnJ 1000 (pickP l (usedP l (z37 (l.getD i par0).1))) fun p hp=>by have:=List.all_eq_true.1 hvl p (hpm p hp);exact of_decide_eq_true this
     have h2:valL (pickP l (usedP l (z37 (l.getD i par0).1)))≤1048576:=by omega
     rw[show decide (((pickP l (usedP l (z37 (l.getD i par0).1))).map fun p=>p.2.2.2.1.length).sum≤1048576)=true from dT h2];have h3:(pickP l (usedP l (z37 (l.getD i par0).1))).isEmpty=false:=by
      cases e4:usedP l (z37 (l.getD i par0).1) with
      | nil=>rw[e4] at e;cases e
      | cons _ _=>rfl
     rw[h3];rfl
    unfold qhB;rw[hto,dT (show out.length+([(z37 (l.getD i par0).1,(z57 (pickP l (usedP l (z37 (l.getD i par0).1))),()))]:List PairT).length≤room by unfold room;simp;omega)];simp only[yi,yc];rw[ql (by omega),ih _ _ (z37 (l.getD i par0).1 :: M) (by rw[yn];simp;omega) (qFz hM _),yl];rfl
theorem qMt:∀ (l0:List qc),(qqC l0=true)→∃ n,qKC n l0=qjO (z38 l0):=fun l h=>⟨l.length+1200,by
 have:=qsK l h (l.length+1200) l.length 0 (l.length+1200) [] [] [] (by omega) (by omega) (by simp) (fun _=>rfl);rw[yw,List.nil_append] at this;exact this⟩
theorem qMu:∀ (s0:LU),(quW s0=true)→∃ n,qQs n s0=qjO (z25 s0):=fun s h=>⟨0,by
 unfold quW at h;rw[yf] at h;unfold qQs;rw[show qGu s=true from h.1,h.2];rfl⟩
theorem wrC (h : -9223372036854775808≤x∧x≤9223372036854775807):wrap .i64 x=x:=IntWalk.i64_in x h
theorem qdw {α:Type} {l:List α} (h:i < l.length) (d:α):l.drop i=l.getD i d :: l.drop (i+1):=by
 rw[List.drop_eq_getElem_cons h,yY,yO h];rfl
theorem qsL (m:Nat) (t:CtT) (l:List (LU×(LI×Unit))) (hl:l.length≤1048576):∀ (d i n:Nat),i+d=l.length→d < n →
 z5_l2 qga (qee m) n t l ((l.length:Nat):Int) (i:Int)=bif (l.drop i).any farP then qga true else qee m t
 | d,i,0,_,h=>absurd h (by omega)
 | 0,i,n+1,hi,_=>by
  show qjG qga (qee m) (z5_l2 qga (qee m) n) n t l ((l.length:Nat):Int) (i:Int)=_;unfold qjG;rw[dF (by omega),yA (by omega)];rfl
 | d+1,i,n+1,hi,hn=>by
  show qjG qga (qee m) (z5_l2 qga (qee m) n) n t l ((l.length:Nat):Int) (i:Int)=_;unfold qjG;have hit:i < l.length:=by omega
  rw[dT (show ((i:Nat):Int) < ((l.length:Nat):Int) by omega),dT (show (0:Int)≤((i:Nat):Int) by omega),qdw hit (([]:LU),(([]:LI),())),tn,List.any_cons,wrC (by omega)];simp only[yc,yi];rw[show ((i:Nat):Int)+1=((i+1:Nat):Int) by omega,qsL m t l hl d (i+1) n (by omega) (by omega)];unfold farP;cases decide ((100:Int) < (((l.getD i (([]:LU),(([]:LI),()))).1.length:Nat):Int)) <;> cases decide ((80:Int) < (((l.getD i (([]:LU),(([]:LI),()))).2.1.length:Nat):Int)) <;> rfl
theorem qRg:∀ (t0:LU×(LU×((List (LU×(LI×Unit)))×Unit))),∃ n,z5_sh n t0=qga (z5 t0):=fun t=>⟨7,by
 unfold z5_sh qgb;have hk:(bif decide ((6:Int) < ((t.2.2.1.length:Nat):Int)) then (6:Int) else ((t.2.2.1.length:Nat):Int))=((min 6 t.2.2.1.length:Nat):Int):=by
  by_cases h:(6:Int) < ((t.2.2.1.length:Nat):Int)
  ·rw[dT h];show (6:Int)=_;omega
  ·rw[dF h];show ((t.2.2.1.length:Nat):Int)=_;omega
 have htk:t.2.2.1.take (min 6 t.2.2.1.length)=t.2.2.1.take 6:=by
  rcases Nat.le_total 6 t.2.2.1.length with h | h
  ·rw[Nat.min_eq_left h]
  ·rw[Nat.min_eq_right h,List.take_of_length_le (yv _),List.take_of_length_le h]
 rw[hk,dT (show (0:Int)≤((0:Nat):Int) by omega),dT (show ((0:Nat):Int)≤((min 6 t.2.2.1.length:Nat):Int) by omega),dT (show ((min 6 t.2.2.1.length:Nat):Int)≤((t.2.2.1.length:Nat):Int) by omega),tn,tn,yw,htk];have h6:(t.2.2.1.take 6).length≤6:=by rw[yz];omega
 have:=qsL 7 t (t.2.2.1.take 6) (by omega) (t.2.2.1.take 6).length 0 7 (by omega) (by omega);rw[yw] at this;show z5_l2 qga (qee 7) 7 t (t.2.2.1.take 6) (((t.2.2.1.take 6).length:Nat):Int) ((0:Nat):Int)=_;rw[this];unfold z5 qee;cases (t.2.2.1.take 6).any farP <;> cases decide ((6:Int) < ((t.2.2.1.length:Nat):Int)) <;> cases decide ((100:Int) < ((t.1.length:Nat):Int)) <;> rfl⟩
theorem qkk (m:Nat) (s2:CtT) (l:List (LU×(LI×Unit))) (hl:l.length≤1048576):∀ (d i:Nat) (x:CtT) (n:Nat),i+d=l.length→d < n→x.2.2.1.length≤i →
 qnl (qew m) n s2 x l ((l.length:Nat):Int) (i:Int)=qzh (x.1,(x.2.1,(x.2.2.1++l.drop i,())))
 | d,i,x,0,_,h,_=>absurd h (by omega)
 | 0,i,x,n+1,hi,_,_=>by
  show qgh (qew m) (qnl (qew m) n) n s2 x l ((l.length:Nat):Int) (i:Int)=_;unfold qgh;rw[dF (by omega),yA (by omega),yG];rfl
 | d+1,i,x,n+1,hi,hn,hx=>by
  show qgh (qew m) (qnl (qew m) n) n s2 x l ((l.length:Nat):Int) (i:Int)=_;unfold qgh;have hit:i < l.length:=by omega
  rw[dT (show ((i:Nat):Int) < ((l.length:Nat):Int) by omega),dT (show (0:Int)≤((i:Nat):Int) by omega),qdw hit (([]:LU),(([]:LI),())),tn,wrC (by omega),dT (show x.2.2.1.length+([l.getD i (([]:LU),(([]:LI),()))]:List (LU×(LI×Unit))).length≤room by show x.2.2.1.length+1≤1073741824;omega)];simp only[yc,yi];rw[show ((i:Nat):Int)+1=((i+1:Nat):Int) by omega,qkk m s2 l hl d (i+1) _ n (by omega) (by omega) (by rw[yn];show x.2.2.1.length+1≤i+1;omega)];simp only[yl,List.singleton_append]
theorem qMv:∀ (t0:LU×(LU×((List (LU×(LI×Unit)))×Unit))),(qFT t0=true)→∃ n,qKE n t0=qzh (z10 t0):=fun t h=>⟨t.2.2.1.length+1,by
 have hl:t.2.2.1.length≤1048576:=qf h;exact qkk (t.2.2.1.length+1) _ t.2.2.1 hl t.2.2.1.length 0 (t.1,(t.2.1,([],()))) (t.2.2.1.length+1) (by omega) (by omega) (Nat.zero_le _)⟩
end
section
open UInt8 (ofNat)
open IntKind (wrap)
variable {t:LI} {c cs n:Int} {name s v x y:LU} {k:Nat} {e:Bool}
theorem qeD (h:i32s t=true) (hc:c∈t) : -2147483648≤c∧c≤2147483647:=by
 unfold i32s at h;rw[List.all_eq_true] at h;simpa using h c hc
theorem qRh (h : -2147483648≤c∧c≤2147483647):wrap .u32 c=if 0≤c then c else c+4294967296:=by
 by_cases h0:0≤c
 ·rw[if_pos h0,IntWalk.u32_in c (by omega)]
 ·rw[if_neg h0];have:wrap .u32 c=c % 4294967296:=rfl;rw[this];omega
theorem qlJ (h : -2147483648≤c∧c≤2147483647):z129 c=qN c:=by
 unfold z129 qN;rw[show qbn c=z155 c from rfl,← Bool.and_assoc,qRh h];congr 1;rw[Bool.eq_iff_iff];simp only[yf,ym];split <;> omega
theorem qqp (h : -2147483648≤c∧c≤2147483647):z130 c=(qbo c).2:=by
 unfold z130 qbo;rw[qRh h];have:decide ((if 0≤c then c else c+4294967296) < 256)=(decide (0≤c)&&decide (c < 256)):=by
  rw[Bool.eq_iff_iff];simp only[yf,ym];split <;> omega
 rw[this];cases (decide (0≤c)&&decide (c < 256)) <;> rfl
theorem qRi (cs:Int) (h : -2147483648≤c∧c≤2147483647):z98 cs c=qH cs c:=by
 unfold z98 qH;rw[qqp h,qlJ h];rfl
theorem qqq (p:Int→Bool):∀ (t:LI) (i:Int),0≤i→(qai p t i = -1∧t.all p=true)∨(0≤qai p t i∧t.all p=false)
 | [],_,_=>.inl ⟨rfl,rfl⟩
 | x :: r,i,hi=>by
  rw[show qai p (x :: r) i=bif p x then qai p r (i+1) else i from rfl,List.all_cons];cases p x with
  | true=>simpa using qqq p r (i+1) (by omega)
  | false=>exact .inr ⟨hi,rfl⟩
theorem qqr (p:Int→Bool) (t:LI):(qai p t 0 == -1)=t.all p:=by
 rcases qqq p t 0 (by omega) with ⟨h1,h2⟩ | ⟨h1,h2⟩
 ·rw[h1,h2];rfl
 ·rw[h2,beqF (by omega)]
theorem qAn (p:Int→Bool) (t:LI):(qai p t 0 != -1) = !(t.all p):=by rw[← qqr];rfl
theorem qRj (p:Int→Bool) (t:LI):decide (0≤qai p t 0) = !(t.all p):=by
 rcases qqq p t 0 (by omega) with ⟨h1,h2⟩ | ⟨h1,h2⟩
 ·rw[h1,h2];rfl
 ·rw[h2,dT h1];rfl
theorem qFA {p q:Int→Bool} (h:∀ c∈t,p c=q c):t.all p=t.all q:=by
 rw[Bool.eq_iff_iff,List.all_eq_true,List.all_eq_true];exact⟨fun k c hc=>by rw[← h c hc];exact k c hc,fun k c hc=>by rw[h c hc];exact k c hc⟩
theorem qbq {f g:Int→LU}:∀ {t:LI},(∀ c∈t,f c=g c)→t.flatMap f=t.flatMap g
 | [],_=>rfl
 | x :: r,h=>by rw[List.flatMap_cons,List.flatMap_cons,h x (by simp),qbq fun c hc=>h c (by simp[hc])]
theorem lead2:∀ i:Fin 32,(192:UInt8) ||| oct8 ((i.val:Nat):Int)=oct8 (192+((i.val:Nat):Int)):=by decide +kernel
theorem lead3:∀ i:Fin 16,(224:UInt8) ||| oct8 ((i.val:Nat):Int)=oct8 (224+((i.val:Nat):Int)):=by decide +kernel
theorem lead4:∀ i:Fin 8,(240:UInt8) ||| oct8 ((i.val:Nat):Int)=oct8 (240+((i.val:Nat):Int)):=by decide +kernel
theorem qAo:∀ i:Fin 256,foll ((i.val:Nat):Int)=oct8 (128+((i.val:Nat):Int) % 64):=by decide +kernel
theorem qMw (n:Int):oct8 n=oct8 (n % 256):=by
 unfold oct8;have:wrap .u8 n=n % 256:=rfl;have h2:wrap .u8 (n % 256)=n % 256 % 256:=rfl;rw[this,h2];congr 1;congr 1;omega
theorem qRk (n:Int):foll n=oct8 (128+n % 64):=by
 have h:=qAo ⟨(n % 256).toNat,by omega⟩;simp only[Int.toNat_of_nonneg (show 0≤n % 256 by omega)] at h;rw[show n % 256 % 64=n % 64 by omega] at h;rw[← h];unfold foll;rw[← qMw]
theorem qTb (h:qN c=true) (h32 : -2147483648≤c∧c≤2147483647):(z136 [] c).1=qi c:=by
 have hs:=(qlJ h32).trans h;have hr:0≤c∧c≤1114111:=by
  unfold qN at h;simp only[yf,ym] at h;exact⟨h.1,h.2.1⟩
 unfold z136 z156 qi;rw[hs,h];simp only[Bool.not_true,yd,qRk,Int.fdiv_eq_ediv_of_nonneg _ (show (0:Int)≤2 ^ 18 by decide),Int.fdiv_eq_ediv_of_nonneg _ (show (0:Int)≤2 ^ 12 by decide),Int.fdiv_eq_ediv_of_nonneg _ (show (0:Int)≤2 ^ 6 by decide),Int.fdiv_eq_ediv_of_nonneg _ (show (0:Int)≤2 ^ 0 by decide)];rw[show (2:Int) ^ 18=262144 from rfl,show (2:Int) ^ 12=4096 from rfl,show (2:Int) ^ 6=64 from rfl,show (2:Int) ^ 0=1 from rfl,Int.ediv_one]
 by_cases h1:c < 128
 ·rw[dT h1];show [(0:UInt8) ||| oct8 c]=[oct8 c];rw[UInt8.zero_or]
 ·rw[dF h1]
  by_cases h2:c < 2048
  ·rw[dT h2];have:=lead2 ⟨(c / 64).toNat,by omega⟩;simp only[Int.toNat_of_nonneg (show 0≤c / 64 by omega)] at this;show [(192:UInt8) ||| oct8 (c / 64),oct8 (128+c % 64)]=_;rw[this];rfl
  ·rw[dF h2]
   by_cases h3:c < 65536
   ·rw[dT h3];have:=lead3 ⟨(c / 4096).toNat,by omega⟩;simp only[Int.toNat_of_nonneg (show 0≤c / 4096 by omega)] at this;show [(224:UInt8) ||| oct8 (c / 4096),oct8 (128+c / 64 % 64),oct8 (128+c % 64)]=_;rw[this];rfl
   ·rw[dF h3];have:=lead4 ⟨(c / 262144).toNat,by omega⟩;simp only[Int.toNat_of_nonneg (show 0≤c / 262144 by omega)] at this;show [(240:UInt8) ||| oct8 (c / 262144),oct8 (128+c / 4096 % 64),oct8 (128+c / 64 % 64),oct8 (128+c % 64)]=_;rw[this];rfl
theorem qlK (h:cs=1∨cs=2∨cs=3∨cs=4∨cs=5):((qb cs c).length != 0)=qH cs c:=by
 unfold qb;cases hh:qH cs c with
 | false=>rfl
 | true =>
  rcases h with rfl | rfl | rfl | rfl | rfl
  ·rfl
  ·rfl
  ·rfl
  ·rfl
  ·have h3:qN c=true:=hh;show ((qi c).length != 0)=true;unfold qi;rw[h3];cases decide (c < (128:Int)) <;> cases decide (c < (2048:Int)) <;> cases decide (c < (65536:Int)) <;> rfl
theorem qRl (h:cs=1∨cs=2∨cs=3∨cs=4∨cs=5):0 < z100 cs:=by
 rcases h with rfl | rfl | rfl | rfl | rfl <;> decide
theorem qTc (cs:Int) (t:LI) (h:i32s t=true):z72 cs t=qbZ cs t:=by
 by_cases hcs:cs=1∨cs=2∨cs=3∨cs=4∨cs=5
 ·have hsz:=qRl hcs;unfold z72 qbZ z101 z135;rw[beqF (show z100 cs≠0 by omega),dT hsz,qqr,dF (show ¬ cs < 1 by omega),dF (show ¬ 5 < cs by omega),qFA (q:=qH cs) (fun c hc=>qRi cs (qeD h hc)),qFA (p:=fun c=>(qb cs c).length != 0) (q:=qH cs) (fun c _=>qlK hcs)];cases ha:t.all (qH cs) with
  | false=>rfl
  | true =>
   rw[List.all_eq_true] at ha;show (bif cs==5 then z102 t else _)=(t.flatMap (qb cs),0);rcases hcs with rfl | rfl | rfl | rfl | rfl
   ·show z68 t=_;have h2:t.all z130=true:=List.all_eq_true.2 fun c hc=>by
     have:=ha c hc;rw[qqp (qeD h hc)];unfold qbo;have h3:(decide (0≤c)&&decide (c < 128))=true:=this;simp only[yf,ym] at h3;rw[dT h3.1,dT (show c < 256 by omega)];rfl
    unfold z68 z96;rw[qAn,h2];show (t.map _,(0:Int))=_;rw[← qbg];congr 1;exact qbq fun c hc=>by
     unfold qb;rw[ha c hc];rfl
   ·show z68 t=_;have h2:t.all z130=true:=List.all_eq_true.2 fun c hc=>by rw[qqp (qeD h hc)];exact ha c hc
    unfold z68 z96;rw[qAn,h2];show (t.map _,(0:Int))=_;rw[← qbg];congr 1;exact qbq fun c hc=>by
     have h3:(qbo c).2=true:=ha c hc;unfold qb;rw[ha c hc];show _=[(qbo c).1];unfold qbo at h3 ⊢;cases h4:(decide (0≤c)&&decide (c < 256)) with
     | false=>rw[h4] at h3;cases h3
     | true =>
      simp only[yf,ym] at h4;rw[IntWalk.u8_in c (by omega)];rfl
   ·show z103 t=_;unfold z103;rw[show t.all z131=true from List.all_eq_true.2 ha];show (t.map _,(0:Int))=_;rw[← qbg];congr 1;exact qbq fun c hc=>by
     unfold qb;rw[ha c hc];rfl
   ·show z104 t=_;unfold z104 z138;rw[qRj,show t.all z132=true from List.all_eq_true.2 ha];show (t.map _,(0:Int))=_;rw[← qbg];congr 1;exact qbq fun c hc=>by
     unfold qb;rw[ha c hc];rfl
   ·show z102 t=_;unfold z102 z65;rw[qqr,show t.all z129=true from List.all_eq_true.2 fun c hc=>(qlJ (qeD h hc)).trans (ha c hc)];show (t.flatMap _,(0:Int))=_;congr 1;exact qbq fun c hc=>by
     have h3:qN c=true:=ha c hc;unfold qb;rw[ha c hc,qTb h3 (qeD h hc)];rfl
 ·simp only[not_or] at hcs;obtain⟨h1,h2,h3,h4,h5⟩:=hcs;unfold z72 qbZ z100;simp only[beqF h1,beqF h2,beqF h3,beqF h4,beqF h5,yd];rw[show (decide (cs < 1)||decide (5 < cs))=true by simp;omega];rfl
theorem qsM (h:z67 t=true):∀ c∈t,32≤c∧c≤126:=fun c hc=>by
 unfold z67 at h;simp only[Bool.not_eq_true',List.any_eq_false] at h;have:=h c hc;unfold z95 at this;simp only[yR,ym,not_or] at this;omega
theorem quy (h:∀ c∈t,32≤c∧c≤126):z96 t = -1:=by
 unfold z96;have gen:∀ (t:LI) (i:Int),(∀ c∈t,32≤c∧c≤126)→qai z130 t i = -1:=fun t=>by
  induction t with
  | nil=>intro i _;rfl
  | cons c r ih =>
   intro i hi;obtain⟨h1,h2⟩:=hi c List.mem_cons_self;show (bif z130 c then qai z130 r (i+1) else i) = -1;rw[show z130 c=true from by
    unfold z130;rw[IntWalk.u32_in c (by omega)];exact dT (by omega)]
   exact ih _ fun x hx=>hi x (List.mem_cons_of_mem _ hx)
 exact gen t 0 h
theorem quz (h:z67 t=true):(z68 t).1=t.map fun c=>ofNat (wrap .u8 c).toNat:=by
 unfold z68;rw[quy (qsM h)];rfl
theorem oct8N {i:Int} (m:Nat) (h:m < 256) (hi:i=m):oct8 i=ofNat m:=by
 subst hi;unfold oct8;rw[IntWalk.u8_in (m:Int) (by omega),Int.toNat_natCast]
theorem follN:∀ b:Fin 64,z177 (ofNat (128+b.val))=true∧((ofNat (128+b.val)) &&& 63).toNat=b.val:=by decide +kernel
theorem qFB:∀ a:Fin 128,qk (ofNat a.val)=1∧((ofNat a.val) &&& (255 ^^^ z157 1)).toNat=a.val:=by decide +kernel
theorem qFC:∀ a:Fin 32,2≤a.val→qk (ofNat (192+a.val))=2∧((ofNat (192+a.val)) &&& (255 ^^^ z157 2)).toNat=a.val:=by decide +kernel
theorem qAp:∀ a:Fin 32,∀ b:Fin 64,z178 (ofNat (192+a.val)) (ofNat (128+b.val))=true:=by decide +kernel
theorem quA:∀ a:Fin 16,qk (ofNat (224+a.val))=3∧((ofNat (224+a.val)) &&& (255 ^^^ z157 3)).toNat=a.val:=by decide +kernel
theorem qqs:∀ a:Fin 16,∀ b:Fin 64,(a.val=0→32≤b.val)→(a.val=13→b.val < 32)→z178 (ofNat (224+a.val)) (ofNat (128+b.val))=true:=by decide +kernel
theorem qAq:∀ a:Fin 5,qk (ofNat (240+a.val))=4∧((ofNat (240+a.val)) &&& (255 ^^^ z157 4)).toNat=a.val:=by decide +kernel
theorem quB:∀ a:Fin 5,∀ b:Fin 64,(a.val=0→16≤b.val)→(a.val=4→b.val < 16)→z178 (ofNat (240+a.val)) (ofNat (128+b.val))=true:=by decide +kernel
theorem qFD (a:Nat) (ha:a < 128) (r:LU):z149 (ofNat a :: r)=((a:Int),1,0):=by
 obtain⟨h1,h2⟩:=qFB ⟨a,ha⟩;simp only at h1 h2;have hf:farN (ofNat a :: r)=1:=by
  show (bif qk (ofNat a)==0 then 0 else 1+runB (ofNat a) (qk (ofNat a) - 1) true r)=1;rw[h1];rfl
 unfold z149;simp only[hf,h1];show (signN 1 (ofNat a :: r),((1:Nat):Int),(0:Int))=_;show (((ofNat a &&& (255 ^^^ z157 ((1:Nat):Int))).toNat:Int),((1:Nat):Int),(0:Int))=_;rw[show z157 ((1:Nat):Int)=z157 1 from rfl,h2];rfl
theorem qMx (a b:Nat) (ha:a < 32) (ha2:2≤a) (hb:b < 64) (r:LU):z149 (ofNat (192+a) :: ofNat (128+b) :: r)=(((a*64+b:Nat):Int),2,0):=by
 obtain⟨h1,h2⟩:=qFC ⟨a,ha⟩ ha2;obtain⟨h3,h4⟩:=follN ⟨b,hb⟩;have h5:=qAp ⟨a,ha⟩ ⟨b,hb⟩;simp only at h1 h2 h3 h4 h5;have hf:farN (ofNat (192+a) :: ofNat (128+b) :: r)=2:=by
  show (bif qk (ofNat (192+a))==0 then 0 else 1+runB (ofNat (192+a)) (qk (ofNat (192+a)) - 1) true (ofNat (128+b) :: r))=2;rw[h1];show 1+(bif z177 (ofNat (128+b))&&(!true||z178 (ofNat (192+a)) (ofNat (128+b))) then runB (ofNat (192+a)) 0 false r+1 else 0)=2;rw[h3,h5];rfl
 unfold z149;simp only[hf,h1];show ((((ofNat (192+a) &&& (255 ^^^ z157 ((2:Nat):Int))).toNat:Nat):Int)*64+(((ofNat (128+b)) &&& 63).toNat:Int),((2:Nat):Int),(0:Int))=_;rw[show z157 ((2:Nat):Int)=z157 2 from rfl,h2,h4];congr 1
theorem qAr (a b c:Nat) (ha:a < 16) (hb:b < 64) (hc:c < 64) (h0:a=0→32≤b) (h13:a=13→b < 32) (r:LU) :
 z149 (ofNat (224+a) :: ofNat (128+b) :: ofNat (128+c) :: r)=((((a*64+b)*64+c:Nat):Int),3,0):=by
 obtain⟨h1,h2⟩:=quA ⟨a,ha⟩;obtain⟨h3,h4⟩:=follN ⟨b,hb⟩;obtain⟨h6,h7⟩:=follN ⟨c,hc⟩;have h5:=qqs ⟨a,ha⟩ ⟨b,hb⟩ h0 h13;simp only at h1 h2 h3 h4 h5 h6 h7;have hf:farN (ofNat (224+a) :: ofNat (128+b) :: ofNat (128+c) :: r)=3:=by
  show (bif qk (ofNat (224+a))==0 then 0 else 1+runB (ofNat (224+a)) (qk (ofNat (224+a)) - 1) true (ofNat (128+b) :: ofNat (128+c) :: r))=3;rw[h1];show 1+(bif z177 (ofNat (128+b))&&(!true||z178 (ofNat (224+a)) (ofNat (128+b))) then (bif z177 (ofNat (128+c))&&(!false||z178 (ofNat (224+a)) (ofNat (128+c))) then runB (ofNat (224+a)) 0 false r+1 else 0)+1 else 0)=3;rw[h3,h5,h6];rfl
 unfold z149;simp only[hf,h1];show (((((ofNat (224+a) &&& (255 ^^^ z157 ((3:Nat):Int))).toNat:Nat):Int)*64+(((ofNat (128+b)) &&& 63).toNat:Int))*64+(((ofNat (128+c)) &&& 63).toNat:Int),((3:Nat):Int),(0:Int))=_;rw[show z157 ((3:Nat):Int)=z157 3 from rfl,h2,h4,h7];congr 1
theorem qFE (a b c d:Nat) (ha:a < 5) (hb:b < 64) (hc:c < 64) (hd:d < 64) (h0:a=0→16≤b) (h4':a=4→b < 16) (r:LU) :
 z149 (ofNat (240+a) :: ofNat (128+b) :: ofNat (128+c) :: ofNat (128+d) :: r)=(((((a*64+b)*64+c)*64+d:Nat):Int),4,0):=by
 obtain⟨h1,h2⟩:=qAq ⟨a,ha⟩;obtain⟨h3,h4⟩:=follN ⟨b,hb⟩;obtain⟨h6,h7⟩:=follN ⟨c,hc⟩;obtain⟨h8,h9⟩:=follN ⟨d,hd⟩;have h5:=quB ⟨a,ha⟩ ⟨b,hb⟩ h0 h4';simp only at h1 h2 h3 h4 h5 h6 h7 h8 h9;have hf:farN (ofNat (240+a) :: ofNat (128+b) :: ofNat (128+c) :: ofNat (128+d) :: r)=4:=by
  show (bif qk (ofNat (240+a))==0 then 0 else 1+runB (ofNat (240+a)) (qk (ofNat (240+a)) - 1) true (ofNat (128+b) :: ofNat (128+c) :: ofNat (128+d) :: r))=4;rw[h1];show 1+(bif z177 (ofNat (128+b))&&(!true||z178 (ofNat (240+a)) (ofNat (128+b))) then (bif z177 (ofNat (128+c))&&(!false||z178 (ofNat (240+a)) (ofNat (128+c))) then (bif z177 (ofNat (128+d))&&(!false||z178 (ofNat (240+a)) (ofNat (128+d))) then runB (ofNat (240+a)) 0 false r+1 else 0)+1 else 0)+1 else 0)=4;rw[h3,h5,h6,h8];rfl
 unfold z149;simp only[hf,h1];show ((((((ofNat (240+a) &&& (255 ^^^ z157 ((4:Nat):Int))).toNat:Nat):Int)*64+(((ofNat (128+b)) &&& 63).toNat:Int))*64+(((ofNat (128+c)) &&& 63).toNat:Int))*64+(((ofNat (128+d)) &&& 63).toNat:Int),((4:Nat):Int),(0:Int))=_;rw[show z157 ((4:Nat):Int)=z157 4 from rfl,h2,h4,h7,h9];congr 1
theorem qAs {n:Nat} (h:qN (n:Int)=true) (h1:n < 128):qi (n:Int)=[ofNat n]:=by
 unfold qi;rw[h,dT (by omega),oct8N n (by omega) rfl];rfl
theorem qMy {n:Nat} (h:qN (n:Int)=true) (h1:¬ n < 128) (h2:n < 2048):qi (n:Int)=[ofNat (192+n / 64),ofNat (128+n % 64)]:=by
 unfold qi;rw[h,dF (by omega),dT (show (n:Int) < 2048 by omega)];simp only[Bool.not_true,yd,yc];rw[oct8N (192+n / 64) (by omega) (by omega),oct8N (128+n % 64) (by omega) (by omega)]
theorem qAt {n:Nat} (h:qN (n:Int)=true) (h2:¬ n < 2048) (h3:n < 65536):qi (n:Int)=[ofNat (224+n / 4096),ofNat (128+n / 64 % 64),ofNat (128+n % 64)]:=by
 unfold qi;rw[h,dF (show ¬ (n:Int) < 128 by omega),dF (show ¬ (n:Int) < 2048 by omega),dT (show (n:Int) < 65536 by omega)];simp only[Bool.not_true,yd,yc];rw[oct8N (224+n / 4096) (by omega) (by omega),oct8N (128+n / 64 % 64) (by omega) (by omega),oct8N (128+n % 64) (by omega) (by omega)]
theorem qFF {n:Nat} (h:qN (n:Int)=true) (h3:¬ n < 65536) (h4:n≤1114111):qi (n:Int)=[ofNat (240+n / 262144),ofNat (128+n / 4096 % 64),ofNat (128+n / 64 % 64),ofNat (128+n % 64)]:=by
 unfold qi;rw[h,dF (show ¬ (n:Int) < 128 by omega),dF (show ¬ (n:Int) < 2048 by omega),dF (show ¬ (n:Int) < 65536 by omega)];simp only[Bool.not_true,yd];rw[oct8N (240+n / 262144) (by omega) (by omega),oct8N (128+n / 4096 % 64) (by omega) (by omega),oct8N (128+n / 64 % 64) (by omega) (by omega),oct8N (128+n % 64) (by omega) (by omega)]
theorem quC (h:qN c=true) (r:LU):z149 (qi c++r)=(c,(((qi c).length:Nat):Int),0)∧0 < (qi c).length:=by
 have hi:=h;unfold qN qbn at hi;simp only[yf,ym,Bool.not_eq_true'] at hi;obtain⟨hi1,hi2,hi3⟩:=hi;obtain⟨n,rfl⟩:∃ n:Nat,c=n:=⟨c.toNat,by omega⟩;have hi2:n≤1114111:=by omega
 by_cases h1:n < 128
 ·rw[qAs h h1];exact⟨qFD n (by omega) r,Nat.succ_pos _⟩
 ·by_cases h2:n < 2048
  ·rw[qMy h h1 h2];have e:=qMx (n / 64) (n % 64) (by omega) (by omega) (by omega) r;rw[show n / 64*64+n % 64=n by omega] at e;exact⟨e,Nat.succ_pos _⟩
  ·by_cases h3:n < 65536
   ·rw[qAt h h2 h3];have hs:¬ (55296≤n∧n≤57343):=fun ⟨a,b⟩=>by
     rw[dT (show (55296:Int)≤(n:Int) by omega),dT (show (n:Int)≤57343 by omega)] at hi3;exact absurd hi3 (by decide)
    have e:=qAr (n / 4096) (n / 64 % 64) (n % 64) (by omega) (by omega) (by omega) (by omega) (fun e=>by omega) r;rw[show (n / 4096*64+n / 64 % 64)*64+n % 64=n by omega] at e;exact⟨e,Nat.succ_pos _⟩
   ·rw[qFF h h3 hi2];have e:=qFE (n / 262144) (n / 4096 % 64) (n / 64 % 64) (n % 64) (by omega) (by omega) (by omega) (by omega) (fun e=>by omega) (fun e=>by omega) r;rw[show ((n / 262144*64+n / 4096 % 64)*64+n / 64 % 64)*64+n % 64=n by omega] at e;exact⟨e,Nat.succ_pos _⟩
theorem qkl:∀ (t:LI) (n:Nat),(∀ c∈t,qN c=true)→(t.flatMap qi).length < n→utfR n (t.flatMap qi)=t
 | [],0,_,h=>by simp at h
 | [],n+1,_,_=>rfl
 | c :: t,0,_,h=>by simp at h
 | c :: t,n+1,hc,h=>by
  rw[List.flatMap_cons] at h ⊢;obtain⟨h1,h2⟩:=quC (hc c (by simp)) (t.flatMap qi);rw[yn] at h;have ih:=qkl t n (fun x hx=>hc x (by simp[hx])) (by omega);have hstep:∀ s:LU,s≠[]→utfR (n+1) s=(bif (z149 s).2.2 != 0 then 65533 else (z149 s).1) :: utfR n (s.drop (z149 s).2.1.toNat):=fun s hs=>by
   cases s with
   | nil=>exact absurd rfl hs
   | cons=>rfl
  rw[hstep _ (by
   intro e;have:=congrArg List.length e;rw[yn,List.length_nil] at this;omega),h1]
  show c :: utfR n ((qi c++t.flatMap qi).drop (Int.toNat (((qi c).length:Nat):Int)))=c :: t;rw[Int.toNat_natCast,List.drop_left,ih]
theorem qfA {cs:Int} {g:UInt8→Int} (hg:∀ c,(qb cs c).length≠0→∃ x,qb cs c=[x]∧g x=c) :
 ∀ t:LI,(t.all fun c=>(qb cs c).length != 0)=true→(t.flatMap (qb cs)).map g=t
 | [],_=>rfl
 | c :: t,h=>by
  rw[List.all_cons,yf] at h;obtain⟨x,h1,h2⟩:=hg c (by simpa using h.1);rw[List.flatMap_cons,h1,List.map_append,qfA hg t h.2,yI,List.map_nil,h2];rfl
theorem qsN {n:Nat} (h:n < 256):(ofNat n).toNat=n:=by simp;omega
theorem qAu (c:Int) (h:(qb 1 c).length≠0):∃ x,qb 1 c=[x]∧z146 (x.toNat:Int)=c:=by
 unfold qb at h ⊢;rw[show qH 1 c=(decide (0≤c)&&decide (c < 128)) from rfl] at h ⊢
 by_cases hc:0≤c∧c < 128
 ·obtain⟨n,rfl⟩:∃ n:Nat,c=n:=⟨c.toNat,by omega⟩;refine⟨oct8 (n:Int),by rw[dT hc.1,dT hc.2];rfl,?_⟩;rw[oct8N n (by omega) rfl,qsN (by omega)];unfold z146;rw[dF (by omega)];rfl
 ·exfalso;rw[show (decide (0≤c)&&decide (c < 128))=false by
   rw[← Bool.not_eq_true,yf,ym,ym];exact hc] at h
  exact h rfl
theorem qAv (c:Int) (h:(qb 2 c).length≠0):∃ x,qb 2 c=[x]∧((x.toNat:Int))=c:=by
 unfold qb at h ⊢;rw[show qH 2 c=(qbo c).2 from rfl] at h ⊢;unfold qbo at h ⊢
 by_cases hc:0≤c∧c < 256
 ·obtain⟨n,rfl⟩:∃ n:Nat,c=n:=⟨c.toNat,by omega⟩;refine⟨ofNat n,by rw[dT hc.1,dT hc.2];rfl,?_⟩;rw[qsN (by omega)]
 ·exfalso;rw[show (decide (0≤c)&&decide (c < 256))=false by
   rw[← Bool.not_eq_true,yf,ym,ym];exact hc] at h
  exact h rfl
theorem qAw:∀ i:Fin 256,(z137 ((i.val:Nat):Int)).2=true→qcw (z137 ((i.val:Nat):Int)).1=((i.val:Nat):Int):=by decide +kernel
theorem quD:∀ c∈([8364,352,353,381,382,338,339,376]:LI),qcw (z137 c).1=c:=by decide +kernel
theorem qFG (h1:c ∉ ([8364,352,353,381,382,338,339,376]:LI)) (h2:c < 0∨256≤c):(z137 c).2=false:=by
 simp only[List.mem_cons,List.not_mem_nil,or_false,not_or] at h1;obtain⟨a1,a2,a3,a4,a5,a6,a7,a8⟩:=h1;have b:∀ k:Int,0≤k→k < 256→(c==k)=false:=fun k _ _=>by
  rw[yB];omega
 unfold z137;rw[beq_eq_false_iff_ne.2 a1,beq_eq_false_iff_ne.2 a2,beq_eq_false_iff_ne.2 a3,beq_eq_false_iff_ne.2 a4,beq_eq_false_iff_ne.2 a5,beq_eq_false_iff_ne.2 a6,beq_eq_false_iff_ne.2 a7,beq_eq_false_iff_ne.2 a8,
  b 164 (by decide) (by decide),b 166 (by decide) (by decide),b 168 (by decide) (by decide),b 180 (by decide) (by decide),b 184 (by decide) (by decide),b 188 (by decide) (by decide),b 189 (by decide) (by decide),b 190 (by decide) (by decide)]
 have:(decide (c < 0)||decide (256≤c))=true:=by
  rw[yR,ym,ym];exact h2
 rw[this];rfl
theorem qFH (c:Int) (h:(qb 3 c).length≠0):∃ x,qb 3 c=[x]∧qcw x=c:=by
 unfold qb at h ⊢;rw[show qH 3 c=(z137 c).2 from rfl] at h ⊢;cases hp:(z137 c).2 with
 | false=>rw[hp] at h;exact absurd rfl h
 | true =>
  refine⟨(z137 c).1,rfl,?_⟩
  by_cases h1:c∈([8364,352,353,381,382,338,339,376]:LI)
  ·exact quD c h1
  ·by_cases h2:c < 0∨256≤c
   ·rw[qFG h1 h2] at hp;cases hp
   ·obtain⟨n,rfl⟩:∃ n:Nat,c=n:=⟨c.toNat,by omega⟩;exact qAw ⟨n,by omega⟩ hp
theorem qIf (c:Int):∀ (l:LI) (i:Int),0≤i→0≤qai (fun x => !(c==x)) l i→∃ k:Nat,k < l.length∧qai (fun x => !(c==x)) l i=i+(k:Nat)∧l.getD k 0=c
 | [],_,_,h=>absurd (show (0:Int) ≤ -1 from h) (by decide)
 | x :: r,i,hi,h=>by
  rw[show qai (fun x => !(c==x)) (x :: r) i=bif !(c==x) then qai (fun x => !(c==x)) r (i+1) else i from rfl] at h ⊢
  by_cases e:c=x
  ·subst e;refine⟨0,by simp,?_,rfl⟩;rw[beq_self_eq_true];simp
  ·rw[beq_eq_false_iff_ne.2 e] at h ⊢;obtain⟨k,h1,h2,h3⟩:=qIf c r (i+1) (by omega) h;refine⟨k+1,by rw[yg];omega,?_,by rw[List.getD_cons_succ];exact h3⟩;show qai (fun x => !(c==x)) r (i+1)=_;rw[h2];omega
theorem qFI:∀ i:Fin 32,256≤z159.getD i.val 0→qay (oct8 (wrap .i64 (128+((0:Int)+(i.val:Nat)))))=z159.getD i.val 0:=by decide +kernel
theorem qRm:∀ i:Fin 256,(i.val < 128∨160≤i.val)→qay (ofNat i.val)=((i.val:Nat):Int):=by decide +kernel
theorem qMz (c:Int) (h:(qb 4 c).length≠0):∃ x,qb 4 c=[x]∧qay x=c:=by
 unfold qb at h ⊢;rw[show qH 4 c=(z139 c).2 from rfl] at h ⊢;cases hp:(z139 c).2 with
 | false=>rw[hp] at h;exact absurd rfl h
 | true =>
  refine⟨(z139 c).1,rfl,?_⟩;unfold z139 at hp ⊢
  by_cases h1:(0≤c∧c < 128)∨(160≤c∧c < 256)
  ·have e:((decide (0≤c)&&decide (c < 128))||(decide (160≤c)&&decide (c < 256)))=true:=by
    simp only[yR,yf,ym];exact h1
   rw[e];obtain⟨n,rfl⟩:∃ n:Nat,c=n:=⟨c.toNat,by omega⟩;show qay (oct8 (n:Int))=_;rw[oct8N n (by omega) rfl];exact qRm ⟨n,by omega⟩ (by simp only;omega)
  ·have e:((decide (0≤c)&&decide (c < 128))||(decide (160≤c)&&decide (c < 256)))=false:=by
    rw[← Bool.not_eq_true];simp only[yR,yf,ym];exact h1
   rw[e] at hp ⊢
   by_cases h2:c < 256
   ·rw[dT h2] at hp;exact absurd (show false=true from hp) (by decide)
   ·rw[dF h2] at hp ⊢
    by_cases h3:z93 z159 c < 0
    ·rw[dT h3] at hp;exact absurd (show false=true from hp) (by decide)
    ·rw[dF h3];obtain⟨k,k1,k2,k3⟩:=qIf c z159 0 (by decide) (by unfold z93 at h3;omega);show qay (oct8 (wrap .i64 (128+z93 z159 c)))=c;unfold z93;rw[k2];have:=qFI ⟨k,k1⟩ (by rw[k3];omega);rw[k3] at this;exact this
theorem qnK (t:LI) (h1:1≤cs∧cs≤5) (h0:(qbZ cs t).2=0):z84 cs (qbZ cs t).1=t:=by
 have hb:(decide (cs < 1)||decide (5 < cs))=false:=by
  rw[dF (by omega),dF (by omega)];rfl
 unfold qbZ at h0 ⊢;rw[hb] at h0 ⊢;cases ha:t.all (fun c=>(qb cs c).length != 0) with
 | false=>rw[ha] at h0;exact absurd (show (9:Int)=0 from h0) (by decide)
 | true =>
  show z84 cs (t.flatMap (qb cs))=t;obtain rfl | rfl | rfl | rfl | rfl:cs=1∨cs=2∨cs=3∨cs=4∨cs=5:=by omega
  ·exact qfA (g:=fun x=>z146 (x.toNat:Int)) qAu t ha
  ·exact qfA (g:=fun x=>(x.toNat:Int)) qAv t ha
  ·exact qfA qFH t ha
  ·exact qfA qMz t ha
  ·have hi:∀ c∈t,qN c=true:=fun c hc=>by
    have:=List.all_eq_true.1 ha c hc;cases e:qN c with
    | true=>rfl
    | false =>
     unfold qb at this;rw[show qH 5 c=qN c from rfl,e] at this;exact absurd (show ((0:Nat) != 0)=true from this) (by decide)
   have e:t.flatMap (qb 5)=t.flatMap qi:=qbq fun c hc=>by
    unfold qb;rw[show qH 5 c=qN c from rfl,hi c hc];rfl
   rw[e];exact qkl t _ hi (Nat.lt_succ_self _)
theorem qAx (l:List LU) (h:∀ x∈l,x.length≤1000):(textL l).length≤1004*l.length:=by
 unfold textL;induction l with
 | nil=>simp
 | cons x r ih =>
  have h1:=h x List.mem_cons_self;have h2:=ih fun y hy=>h y (List.mem_cons_of_mem _ hy);rw[List.flatMap_cons,yn,yg,yn];simp only[yg,List.length_nil];omega
theorem qlL (s:LU):z37 (z37 s)=z37 s:=by
 have h:∀ i:Fin 256,z30 (z30 (ofNat i.val))=z30 (ofNat i.val):=by decide +kernel
 unfold z37;rw[List.map_map];exact List.map_congr_left fun c _=>qny (P:=fun c=>z30 (z30 c)=z30 c) h c
theorem qsO (a b:LU):z42 a b=(z37 a==z37 b):=rfl
def tk (c:UInt8):Bool:=z35 c 64
def calm (c:UInt8):Bool:=(!(blkB c)&&(c != 34))&&((c != 40)&&(c != 59))
theorem qMA:∀ i:Fin 256,(!(z35 (ofNat i.val) 256)||(tk (ofNat i.val)&&(ofNat i.val != 42)))=true:=by decide +kernel
theorem qIg (c:UInt8) (h:z35 c 256=true):tk c=true∧(c==42)=false:=by
 have:=qny (P:=fun c=>(!(z35 c 256)||(tk c&&(c != 42)))=true) qMA c;rw[h] at this;simp only[Bool.not_true,Bool.false_or,yf,bne,Bool.not_eq_true'] at this;exact this
theorem calm0:∀ i:Fin 256,(!(tk (ofNat i.val))||calm (ofNat i.val))=true:=by decide +kernel
theorem qnL (c:UInt8) (h:tk c=true):calm c=true:=by
 have:=qny (P:=fun c=>(!(tk c)||calm c)=true) calm0 c;rw[h] at this;exact this
theorem qnM {c:UInt8} (h:calm c=true):blkB c=false∧(c==34)=false∧(c==40)=false∧(c==59)=false:=by
 unfold calm at h;simp only[yf,bne,Bool.not_eq_true'] at h;exact⟨h.1.1,h.1.2,h.2.1,h.2.2⟩
theorem qRn:∀ i:Fin 256,((oneC (ofNat i.val)).all tk)=true:=by decide +kernel
theorem qMB (c:UInt8):(oneC c).all tk=true:=qny (P:=fun c=>(oneC c).all tk=true) qRn c
theorem qRo:∀ i:Fin 100,((digI ((i.val:Nat):Int)).all tk)=true:=by decide +kernel
theorem qMC (n:Int):(z75 n).all tk=true:=by
 unfold z75 z61;cases (n==(1:Int)) <;> cases (n==(2:Int)) <;> cases (n==(3:Int)) <;> cases (n==(4:Int)) <;> cases (n==(5:Int)) <;> decide +kernel
theorem qsP {α:Type} {f:α→LU} (h:∀ x,(f x).all tk=true):∀ l:List α,(l.flatMap f).all tk=true
 | []=>rfl
 | x :: l=>by rw[List.flatMap_cons,List.all_append,h x,qsP h l];rfl
def numOk (n:Int):Prop:=n = -1∨(0≤n∧n < 100)
theorem qIh (hn:name.all tk=true) (h:numOk n) (e:Bool):(nameL name n e).all tk=true:=by
 unfold nameL;rw[List.all_append,List.all_append,hn];rcases h with rfl | h
 ·cases e <;> rfl
 ·rw[dT h.1];obtain⟨k,rfl⟩:∃ k:Nat,n=(k:Int):=⟨n.toNat,by omega⟩;simp only[yc,List.all_cons,show (digI (k:Int)).all tk=true from qRo ⟨k,by omega⟩];cases e <;> rfl
def secL (name:LU) (n:Int) (e:Bool) (v:LU):LU:=nameL name n e++61 :: v
def tokV (v:LU):Prop:=v≠[]∧v.all tk=true
def goodV (v:LU):Prop:=tokV v∨∃ b,v=quoL b
theorem qMD (h:mayN name=true):name≠[]∧name.length≤30∧name.all tk=true∧(name.all fun c=>z35 c 256)=true:=by
 unfold mayN at h;simp only[yf,ym] at h;refine⟨fun e=>by rw[e] at h;exact absurd h.1.1 (by decide),h.1.2,List.all_eq_true.2 fun c hc=>(qIg c (List.all_eq_true.1 h.2 c hc)).1,h.2⟩
theorem qsQ:∀ name:LU,(name.all fun c=>z35 c 256)=true→∀ r,starN (name++r)=(starN r).map (· + name.length)
 | [],_,r=>by cases e:starN r <;> simp[e]
 | c :: l,h,r=>by
  simp only[List.all_cons,yf] at h;show (bif c==42 then some 0 else (starN (l++r)).map (· + 1))=_;rw[(qIg c h.1).2,qsQ l h.2 r];cases starN r with
  | none=>rfl
  | some j=>simp only[yd,yU,yg];congr 1
theorem qat (h:k≤s.length):qw s (k:Int)=k:=by unfold qw;rw[tn,Nat.min_eq_left h]
theorem qjc (a:LU) (c:UInt8) (b:LU):(a++c :: b).getD a.length 0=c:=by simp
theorem qAy:∀ (b r:LU),unqG (b.flatMap quoC++34 :: r)=some (b,(b.flatMap quoC).length+1)
 | [],r=>qlD r
 | c :: b,r=>by
  rw[List.flatMap_cons,yl,yn];have ih:=qAy b r;rw[show quoC c=bif (c==34)||(c==92) then [92,c] else [c] from rfl];cases h1:c==34 with
  | true =>
   rw[Bool.true_or,yc];show unqG (92 :: c :: (b.flatMap quoC++34 :: r))=_;rw[qsE,ih];simp only[yU,yg,List.length_nil];congr 2;omega
  | false =>
   cases h2:c==92 with
   | true =>
    rw[Bool.or_true,yc];show unqG (92 :: c :: (b.flatMap quoC++34 :: r))=_;rw[qsE,ih];simp only[yU,yg,List.length_nil];congr 2;omega
   | false =>
    rw[Bool.or_false,yd];show unqG (c :: (b.flatMap quoC++34 :: r))=_;rw[qlE _ _ h1 h2,ih];simp only[yU,yg,List.length_nil];congr 2;omega
theorem quE (b:LU):qB (quoL b)=(b,(((quoL b).length:Nat):Int),0):=by
 unfold quoL;rw[show qB (34 :: (b.flatMap quoC++[34]))=unqR (unqG (b.flatMap quoC++[34])) from rfl,qAy b []];simp[unqR]
theorem qdZ (p:UInt8→Bool):∀ (w r:LU),w.all p=true→(w++r).takeWhile p=w++r.takeWhile p
 | [],r,_=>rfl
 | c :: w,r,h=>by
  simp only[List.all_cons,yf] at h;rw[List.cons_append,List.takeWhile_cons,h.1,qdZ p w r h.2];rfl
theorem qFJ (h:goodV v):∃ c v',v=c :: v'∧blkB c=false∧(c==40)=false:=by
 rcases h with ⟨h1,h2⟩ | ⟨b,rfl⟩
 ·cases v with
  | nil=>exact absurd rfl h1
  | cons c v =>
   simp only[List.all_cons,yf] at h2;obtain⟨k1,k2,k3,k4⟩:=qnM (qnL c h2.1);exact⟨c,v,rfl,k1,k3⟩
 ·exact⟨34,_,rfl,by decide +kernel,rfl⟩
theorem qFK:blkB 13=true∧blkB 10=true∧blkB 32=true∧blkB 61=false∧z35 61 64=false:=by decide +kernel
theorem qlM (x:LU) (l:List LU):textL (x :: l)=59 :: (([13,10,32]++x)++textL l):=by
 unfold textL;rw[List.flatMap_cons];simp
theorem qsR (name:LU) (n:Int) (e:Bool) (v u:LU):secL name n e v++u=secL name n e (v++u):=by unfold secL;rw[yl];rfl
theorem qAz {u:LU} (h:tokV v) (hu:u.all tk=true):tokV (v++u):=⟨fun e=>h.1 (List.append_eq_nil_iff.1 e).1,by rw[List.all_append,h.2,hu];rfl⟩
theorem qqt (name:LU) (cs:LU) (h:¬ 0 < n):headL name n cs=secL name n true (cs++[39,39]):=by unfold headL;rw[dF h];rfl
theorem qFL (name:LU) (cs:LU) (h:0 < n):headL name n cs=secL name n true []:=by unfold headL;rw[dT h];rfl
theorem qIi {cs:LU} (h:cs.all tk=true):tokV (cs++[39,39]):=⟨fun e=>absurd (List.append_eq_nil_iff.1 e).2 (by simp),by rw[List.all_append,h];decide +kernel⟩
theorem lowA0:∀ i:Fin 256,(!(z35 (ofNat i.val) 256)||z35 (z30 (ofNat i.val)) 256)=true:=by decide +kernel
theorem qME (h:(s.all fun c=>z35 c 256)=true):((z37 s).all fun c=>z35 c 256)=true:=by
 unfold z37;rw[List.all_map,List.all_eq_true];intro c hc;have h1:=List.all_eq_true.1 h c hc;have:=qny (P:=fun c=>(!(z35 c 256)||z35 (z30 c) 256)=true) lowA0 c;rw[h1] at this;exact this
theorem digs0:∀ i:Fin 100,(z37 (digI ((i.val:Nat):Int))==digI ((i.val:Nat):Int)&&(z119 (digI ((i.val:Nat):Int))==((i.val:Nat):Int) && !(digI ((i.val:Nat):Int)).isEmpty))=true:=by decide +kernel
theorem digs (h:k < 100):z37 (digI (k:Int))=digI (k:Int)∧z119 (digI (k:Int))=(k:Int)∧(digI (k:Int)).isEmpty=false:=by
 have:=digs0 ⟨k,h⟩;simp only[yf,beq_iff_eq,Bool.not_eq_true'] at this;exact this
theorem qqu (a b:LU):z37 (a++b)=z37 a++z37 b:=List.map_append
theorem qFM (d:LU):z118 (d++[42]) [42]=(d,true):=by
 unfold z118 z150;rw[yn,dT (show ([42]:LU).length≤d.length+([42]:LU).length by omega),Nat.add_sub_cancel];rw[List.drop_left' rfl,List.take_left' rfl];rfl
theorem qAA (h:mayN name=true) (hn:numOk n) (he:e=false→n = -1):z89 (nameL name n e)=(z37 name,(n,e)):=by
 obtain⟨h1,h2,h3,h4⟩:=qMD h;have hF:=qME h4;have hfl:(z37 name).length=name.length:=by unfold z37;rw[yP]
 have hp:0 < name.length:=List.length_pos_iff.2 h1;have hs:=fun r=>qsQ (z37 name) hF r;rw[hfl] at hs;rcases hn with rfl | hn
 ·cases e
  ·have hw:z37 (nameL name (-1) false)=z37 name++[]:=by show z37 ((name++[])++[])=_;rw[yG,yG,yG]
   unfold z89;rw[hw,hs [],yG];rfl
  ·have hw:z37 (nameL name (-1) true)=z37 name++[42]:=by show z37 ((name++[])++[42])=_;rw[yG,qqu];rfl
   unfold z89;rw[hw,hs [42],show (starN [42]).map (· + name.length)=some (0+name.length) from rfl,yE];have hd:(z37 name++[42]).drop (name.length+1)=[]:=yA (by rw[yn,hfl];exact yv _);have ht:(z37 name++[42]).take name.length=z37 name:=List.take_left' hfl;show attrW _ _=_;unfold attrW;rw[ht,hd,beq_eq_false_iff_ne.2 (show name.length≠0 by omega),show z31 (z37 name) 256=true from hF];rfl
 ·obtain⟨k,rfl⟩:∃ k:Nat,n=(k:Int):=⟨n.toNat,by omega⟩;cases e
  ·have:=he rfl;omega
  ·obtain⟨d1,d2,d3⟩:=digs (show k < 100 by omega);have hw:z37 (nameL name (k:Int) true)=z37 name++42 :: (digI (k:Int)++[42]):=by
    unfold nameL;rw[dT (by omega),yc,yc,qqu,qqu,show z37 (42 :: digI (k:Int))=42 :: z37 (digI (k:Int)) from rfl,d1,yl];rfl
   unfold z89;rw[hw,hs,show (starN (42 :: (digI (k:Int)++[42]))).map (· + name.length)=some (0+name.length) from rfl,yE];have hd:(z37 name++42 :: (digI (k:Int)++[42])).drop (name.length+1)=digI (k:Int)++[42]:=by rw[← List.drop_drop,List.drop_left' hfl];rfl
   have ht:(z37 name++42 :: (digI (k:Int)++[42])).take name.length=z37 name:=List.take_left' hfl;have hem:(digI (k:Int)++[42]).isEmpty=false:=by cases digI (k:Int) <;> rfl
   show attrW _ _=_;unfold attrW;rw[ht,hd,beq_eq_false_iff_ne.2 (show name.length≠0 by omega),show z31 (z37 name) 256=true from hF,qFM,hem,d2,beq_eq_false_iff_ne.2 (show ((k:Nat):Int) ≠ -1 by omega)];rfl
theorem qMF (hm:mayN name=true) (hn:numOk n) (he:e=false→n = -1) (hv:(tokV v∧x=v)∨v=quoL x) (hl:v.length≤1000) :
 z59 ([13,10,32]++secL name n e v)=((z37 name,(n,(e,(x,())))),0):=by
 obtain⟨f1,f2,f3,f4,f5⟩:=qFK;obtain⟨m1,m2,m3,m4⟩:=qMD hm;have hW:=qIh m3 hn e;have hWl:=qzY name n e;have hA:=qAA hm hn he;have hgv:goodV v:=hv.imp (fun h=>h.1) fun h=>⟨_,h⟩;unfold secL;generalize hw:nameL name n e=W at *
 have hWn:∃ w W',W=w :: W':=by
  cases W with
  | nil =>
   unfold nameL at hw;cases name with
   | nil=>exact absurd rfl m1
   | cons c r=>cases hw
  | cons w W'=>exact⟨w,W',rfl⟩
 obtain⟨w,W',hWc⟩:=hWn;have hwk:tk w=true:=by rw[hWc] at hW;simp only[List.all_cons,yf] at hW;exact hW.1
 obtain⟨k1,k2,k3,k4⟩:=qnM (qnL w hwk);obtain⟨c,v',hvc,c1,c2⟩:=qFJ hgv;generalize hP:[13,10,32]++(W++61 :: v)=P;have hPl:P.length=3+W.length+1+v.length:=by rw[← hP];simp;omega
 have hvl:v.length=v'.length+1:=by rw[hvc];rfl
 have g0:P.getD 0 0=13:=by rw[← hP];rfl
 have g1:P.getD 1 0=10:=by rw[← hP];rfl
 have g2:P.getD 2 0=32:=by rw[← hP];rfl
 have g3:P.getD 3 0=w:=by rw[← hP,hWc];rfl
 have hg0:gapW P 0=3:=by
  rw[qfx P 0 (by omega),g0,f1,show ((13:UInt8)==40)=false from rfl,yd,yc,qfx P 1 (by omega),g1,f2,show ((10:UInt8)==40)=false from rfl,yd,yc,
   qfx P 2 (by omega),g2,f3,show ((32:UInt8)==40)=false from rfl,yd,yc,qfx P 3 (by omega),g3,k1,k3]
  rfl
 have hG0:z22 P 0=((3:Nat):Int):=by unfold z22;rw[show qw P 0=0 from qat (k:=0) (by omega),hg0]
 have hd3:P.drop 3=W++61 :: v:=by rw[← hP];rfl
 have ht3:tokN P 3=W:=by
  unfold tokN;rw[hd3];have:=qdZ tk W (61 :: v) hW;rw[List.takeWhile_cons,show tk 61=false from f5] at this;rw[show (fun c=>z35 c 64)=tk from rfl,this];simp
 have hT:oneTW P=(W,(((3+W.length:Nat):Int),0)):=by
  unfold oneTW z36;rw[hG0];unfold qF;rw[qat (by omega),beq_eq_false_iff_ne.2 (show 3≠P.length by omega),ht3,show W.isEmpty=false from by rw[hWc];rfl];rfl
 have hb:P=([13,10,32]++W)++61 :: v:=by rw[← hP,yl]
 have hbl:([13,10,32]++W:LU).length=3+W.length:=by simp;omega
 have hq:P.getD (3+W.length) 0=61:=by rw[hb,← hbl];exact qjc _ _ _
 have hg1:gapW P (3+W.length)=3+W.length:=by rw[qfx P _ (by omega),hq,f4];rfl
 have hS:oneSW P=(((3+W.length+1:Nat):Int),true):=by
  unfold oneSW;rw[hT];show z24 P ((3+W.length:Nat):Int) 61=_;unfold z24;rw[qat (by omega),hg1,hq,dT (by omega)];rfl
 have hb2:P=([13,10,32]++W++[61])++c :: v':=by rw[hb,hvc,yl,yl,yl];rfl
 have hbl2:([13,10,32]++W++[61]:LU).length=3+W.length+1:=by simp;omega
 have hq2:P.getD (3+W.length+1) 0=c:=by rw[hb2,← hbl2];exact qjc _ _ _
 have hg2:gapW P (3+W.length+1)=3+W.length+1:=by rw[qfx P _ (by omega),hq2,c1,c2];rfl
 have hd4:P.drop (3+W.length+1)=v:=by rw[hb2,← hbl2,List.drop_left' rfl,hvc]
 have hV:oneVW P=(x,(((P.length:Nat):Int),0)):=by
  unfold oneVW;rw[hS];show qbi P (z22 P ((3+W.length+1:Nat):Int))=_;unfold z22;rw[qat (by omega),hg2];unfold qbi;rw[qat (by omega),hq2,beq_eq_false_iff_ne.2 (show 3+W.length+1≠P.length by omega),Bool.false_or,hd4];rcases hv with ⟨⟨q1,q2⟩,rfl⟩ | rfl
  ·have hc34:(c==34)=false:=by
    rw[hvc] at q2;simp only[List.all_cons,yf] at q2;exact(qnM (qnL c q2.1)).2.1
   rw[bne,hc34];show qF P ((3+W.length+1:Nat):Int)=_;have ht4:tokN P (3+W.length+1)=x:=by
    unfold tokN;have:=qdZ tk x [] q2;rw[yG] at this;rw[hd4];exact this.trans (yG x)
   unfold qF;rw[qat (by omega),beq_eq_false_iff_ne.2 (show 3+W.length+1≠P.length by omega),ht4,show x.isEmpty=false from by rw[hvc];rfl];show (x,(((3+W.length+1+x.length:Nat):Int),(0:Int)))=_;rw[hPl]
  ·have hc34:c=34:=by unfold quoL at hvc;exact(List.cons.inj hvc).1.symm
   rw[hc34,quE];show (x,((((3+W.length+1:Nat):Int)+(((quoL x).length:Nat):Int)),(0:Int)))=_;rw[hPl];congr 2
 unfold z59;rw[hT,hS,hV];simp only[tn,List.drop_length,hA];rfl
theorem qAB:(z59 []).2=3:=by decide +kernel
def Shut (x:LU):Prop:=∀ (n:Nat) (r:LU),x.length≤n→∃ n',n≤n'+x.length∧∀ cur,ptsW n (x++r) cur=ptsW n' r (cur++x)
theorem qMG:Shut []:=fun n r _=>⟨n,by omega,fun cur=>by rw[yG];rfl⟩
theorem qgF (hx:Shut x) (hy:Shut y):Shut (x++y):=fun n r hn=>by
 rw[yn] at hn ⊢;obtain⟨n1,a1,a2⟩:=hx n (y++r) (by omega);obtain⟨n2,b1,b2⟩:=hy n1 r (by omega);exact⟨n2,by omega,fun cur=>by rw[yl,a2,b2,yl]⟩
theorem qjd {c:UInt8} (h1:(c==34)=false) (h2:(c==40)=false) (h3:(c==59)=false):Shut [c]:=fun n r hn=>by
 obtain⟨m,rfl⟩:∃ m,n=m+1:=⟨n - 1,by simp only[yg] at hn;omega⟩;refine⟨m,yv _,fun cur=>?_⟩;show ptsW (m+1) (c :: r) cur=_;rw[qdY,h3,qfy,h1,h2];rfl
theorem qAC:∀ x:LU,x.all tk=true→Shut x
 | [],_=>qMG
 | c :: x,h=>by
  simp only[List.all_cons,yf] at h;obtain⟨k1,k2,k3,k4⟩:=qnM (qnL c h.1);exact qgF (x:=[c]) (qjd k2 k3 k4) (qAC x h.2)
theorem qMH (b:LU):Shut (quoL b):=fun n r hn=>by
 unfold quoL at hn ⊢;rw[yg,yn,List.length_singleton] at hn ⊢;obtain⟨m,rfl⟩:∃ m,n=m+1:=⟨n - 1,by omega⟩;have hu:=qAy b r;have e1:(b.flatMap quoC++[34])++r=b.flatMap quoC++34 :: r:=by rw[yl];rfl
 refine⟨m,by omega,fun cur=>?_⟩;rw[List.cons_append,e1,qdY,qfy,hu,show ((34:UInt8)==59)=false from rfl,show ((34:UInt8)==34)=true from rfl,yd,yc];show ptsW m ((34 :: (b.flatMap quoC++34 :: r)).drop ((b.flatMap quoC).length+1+1)) (cur++(34 :: (b.flatMap quoC++34 :: r)).take ((b.flatMap quoC).length+1+1))=_;have hlen:(34 :: (b.flatMap quoC++[34])).length=(b.flatMap quoC).length+1+1:=by rw[yg,yn];rfl
 have e4:34 :: (b.flatMap quoC++34 :: r)=(34 :: (b.flatMap quoC++[34]))++r:=by rw[List.cons_append,e1]
 rw[e4,List.drop_left' hlen,List.take_left' hlen]
theorem qMI (hm:mayN name=true) (hn:numOk n) (e:Bool) (hv:goodV v):Shut ([13,10,32]++secL name n e v):=by
 obtain⟨m1,m2,m3,m4⟩:=qMD hm;unfold secL;refine qgF (qgF (x:=[13]) (qjd rfl rfl rfl) (qgF (x:=[10]) (qjd rfl rfl rfl) (qjd rfl rfl rfl))) (qgF (qAC _ (qIh m3 hn e)) (qgF (x:=[61]) (qjd rfl rfl rfl) ?_));rcases hv with h | ⟨b,rfl⟩
 ·exact qAC _ h.2
 ·exact qMH b
theorem qfB:∀ (l:List LU),(∀ x∈l,Shut ([13,10,32]++x))→∀ (n:Nat) (cur:LU),(textL l).length < n→ptsW n (textL l) cur=cur :: l.map ([13,10,32] ++ ·)
 | [],_,n,cur,hn=>by
  obtain⟨m,rfl⟩:∃ m,n=m+1:=⟨n - 1,by omega⟩;rfl
 | x :: l,h,n,cur,hn=>by
  obtain⟨m,rfl⟩:∃ m,n=m+1:=⟨n - 1,by omega⟩;rw[qlM] at hn ⊢;rw[yg,yn] at hn;obtain⟨k,a1,a2⟩:=h x List.mem_cons_self m (textL l) (by omega);have b1:=qfB l (fun y hy=>h y (List.mem_cons_of_mem _ hy)) k ([]++([13,10,32]++x)) (by omega);rw[qdY];show cur :: ptsW m (([13,10,32]++x)++textL l) []=_;rw[a2,b1];rfl
structure SecP (name:LU) (x:LU) (p:qc):Prop where
 is:∃ n e v y,x=secL name n e v∧p=(z37 name,(n,(e,(y,()))))∧numOk n∧(e=false→n = -1)∧((tokV v∧y=v)∨v=quoL y)
theorem qje (hm:mayN name=true) (L:List LU) (ps:List qc) (hl:∀ x∈L,x.length≤1000) (hs:∀ (k:Nat) x,L[k]? = some x→∃ p,ps[k]? = some p∧SecP name x p) (hlen:ps.length=L.length) :
 z39 (textL L)=ps∧∀ x∈L,Shut ([13,10,32]++x):=by
 have h1:∀ x∈L,Shut ([13,10,32]++x):=fun x hx=>by
  obtain⟨k,hk⟩:=List.getElem?_of_mem hx;obtain⟨p,_,n,e,v,y,rfl,_,hn,_,hv⟩:=hs k x hk;exact qMI hm hn e (hv.imp (fun h=>h.1) fun h=>⟨_,h⟩)
 have h2:=qfB L h1 ((textL L).length+1) [] (Nat.lt_succ_self _);refine⟨?_,h1⟩;unfold z39 z58;rw[h2,List.flatMap_cons,qAB];show []++_=_;rw[List.nil_append];have key:∀ (L:List LU) (ps:List qc),(∀ x∈L,x.length≤1000)→(∀ (k:Nat) x,L[k]? = some x→∃ p,ps[k]? = some p∧SecP name x p)→ps.length=L.length →
  (L.map ([13,10,32] ++ ·)).flatMap (fun p=>bif (z59 p).2==0 then [(z59 p).1] else [])=ps:=fun L=>by
  induction L with
  | nil=>intro ps _ _ h;rw[yF h];rfl
  | cons x L ih =>
   intro ps hl hs hlen;cases ps with
   | nil=>cases hlen
   | cons q ps =>
    obtain⟨p,hp,n,e,v,y,hx,hpe,hn,he,hv⟩:=hs 0 x rfl;simp only[y3,ya] at hp;have hvl:v.length≤1000:=by
     have:=hl x List.mem_cons_self;rw[hx] at this;unfold secL at this;rw[yn,yg] at this;omega
    have ho:=qMF hm hn he hv hvl;rw[yI,List.flatMap_cons,hx,ho,ih ps (fun y hy=>hl y (List.mem_cons_of_mem _ hy)) (fun k y hy=>hs (k+1) y hy) (by simpa using hlen),hp,hpe];rfl
 exact key L ps hl hs hlen
theorem qMJ:∀ i:Fin 256,(z176 ((z140 (ofNat i.val)).getD 0 0) ((z140 (ofNat i.val)).getD 1 0)==(ofNat i.val,true))=true:=by decide +kernel
theorem qTd:z35 37 256=false:=by decide +kernel
theorem qRp (c:UInt8) (r:LU):pctS 0 (oneC c++r)=c :: pctS 0 r:=by
 unfold oneC
 by_cases h:z35 c 256=true
 ·rw[h,yc];have hc:(c==37)=false:=by
   rw[yB];intro e;rw[e,qTd] at h;cases h
  show pctS 0 (c :: r)=_;rw[qhP];have:z166 (c :: r) 0 37=(0,false):=by
   unfold z166 qAN;rw[show List.getD (c :: r) (Int.toNat 0) 0=c from rfl,hc];cases decide ((0:Int)≤0)&&decide ((0:Int)≤(((c :: r).length:Nat):Int) - 3) <;> rfl
  rw[this];rfl
 ·have h':z35 c 256=false:=by cases e:z35 c 256 with | true=>exact absurd e h | false=>rfl
  rw[h',yd];show pctS 0 (37 :: (z140 c++r))=_;have hb:z140 c=[(z140 c).getD 0 0,(z140 c).getD 1 0]:=rfl;have hp:=qny (P:=fun c=>(z176 ((z140 c).getD 0 0) ((z140 c).getD 1 0)==(c,true))=true) qMJ c;have ht:z166 (37 :: (z140 c++r)) 0 37=(c,true):=by
   unfold z166 qAN;rw[hb];have hl:(0:Int)≤(((37 :: ([(z140 c).getD 0 0,(z140 c).getD 1 0]++r):LU).length:Nat):Int) - 3:=by simp;omega
   rw[dT hl,dT (Int.le_refl 0)];exact eq_of_beq hp
  rw[qhP,ht,qhO 2];rfl
theorem qAD:∀ (s r:LU),pctS 0 (s.flatMap oneC++r)=s++pctS 0 r
 | [],r=>rfl
 | c :: s,r=>by rw[List.flatMap_cons,yl,qRp,qAD s r];rfl
theorem qqv (s:LU):z110 (s.flatMap oneC)=s:=by
 have:=qAD s [];rw[yG,show pctS 0 []=[] from rfl,yG] at this;exact this
theorem qRq (n:Int):chN 39 (z75 n)=none:=by
 unfold z75 z61;cases (n==(1:Int)) <;> cases (n==(2:Int)) <;> cases (n==(3:Int)) <;> cases (n==(4:Int)) <;> cases (n==(5:Int)) <;> decide +kernel
theorem qRr {x:UInt8}:∀ {a:LU} (r:LU),chN x a=none→chN x (a++x :: r)=some a.length
 | [],r,_=>by unfold chN;rw[List.nil_append];simp[chN]
 | c :: a,r,h=>by
  unfold chN at h;cases e:c==x with
  | true=>rw[e] at h;cases h
  | false =>
   rw[e,yd] at h;have h':chN x a=none:=Option.map_eq_none_iff.1 h;show (bif c==x then some 0 else (chN x (a++x :: r)).map (· + 1))=_;rw[e,qRr r h'];rfl
theorem qIj (n:Int) (u:LU):z81 ((z75 n++[39,39])++u)=(z75 n,(u,true)):=by
 have e:(z75 n++[39,39])++u=z75 n++39 :: (39 :: u):=by rw[yl];rfl
 have hd:(z75 n++39 :: (39 :: u)).drop ((z75 n).length+1)=39 :: u:=by rw[← List.drop_drop,List.drop_left' rfl];rfl
 unfold z81;rw[e,qRr _ (qRq n)];simp only[hd,show chN 39 (39 :: u)=some 0 from rfl];rw[List.take_left' rfl];rfl
theorem qjf (n:Int) (h:1≤n∧n≤5):z29 (z75 n)=(n,0):=by
 obtain rfl | rfl | rfl | rfl | rfl:n=1∨n=2∨n=3∨n=4∨n=5:=by omega
 all_goals decide +kernel
theorem qIk {p:Int→Bool} (h:(selF p).2=0):(1≤(selF p).1∧(selF p).1≤5)∧p (selF p).1=true:=by
 unfold selF qFW at h ⊢;cases h1:p 1 with
 | true=>simp[h1]
 | false =>
  cases h2:p 2 with
  | true=>simp[h1,h2]
  | false =>
   cases h3:p 3 with
   | true=>simp[h1,h2,h3]
   | false =>
    cases h4:p 4 with
    | true=>simp[h1,h2,h3,h4]
    | false =>
     cases h5:p 5 with
     | true=>simp[h1,h2,h3,h4,h5]
     | false =>
      rw[h1,h2,h3,h4,h5] at h;cases h
theorem qqw (h1:1≤cs∧cs≤5) (h:t.all (qH cs)=true):qbZ cs t=(t.flatMap (qb cs),0):=by
 have h':cs=1∨cs=2∨cs=3∨cs=4∨cs=5:=by omega
 unfold qbZ;rw[dF (show ¬ cs < 1 by omega),dF (show ¬ 5 < cs by omega),qFA (q:=qH cs) (fun c _=>qlK h'),h];rfl
structure TextG (cs:Int) (t:LI):Prop where
 range:1≤cs∧cs≤5
 back:z84 cs (t.flatMap (qb cs))=t
 units:z50 cs t=t.map fun c=>(qb cs c).flatMap oneC
 ne:∀ c∈t,qb cs c≠[]
theorem qMK (h:i32s t=true) (h0:(z49 t).2=0):TextG (z49 t).1 t:=by
 have h1:1≤(z49 t).1∧(z49 t).1≤5:=(qIk h0).1;have h2:t.all (z98 (z49 t).1)=true:=(qIk h0).2;have h3:t.all (qH (z49 t).1)=true:=by
  rw[qFA (q:=z98 (z49 t).1) (fun c hc=>(qRi _ (qeD h hc)).symm)];exact h2
 have hl:=qqw h1 h3;refine⟨h1,?_,?_,fun c hc e=>?_⟩
 ·have:=qnK (cs:=(z49 t).1) t h1 (by rw[hl]);rw[hl] at this;exact this
 ·unfold z50;refine List.map_congr_left fun c hc=>?_;unfold unitL z73;have hi:i32s [c]=true:=by
   have:=qeD h hc;unfold i32s;rw[List.all_cons,dT this];rfl
  rw[qTc _ _ hi,qqw h1 (by rw[List.all_cons,List.all_eq_true.1 h3 c hc];rfl)];simp
 ·have h4:=List.all_eq_true.1 h3 c hc;rw[← qlK (by omega),e] at h4;cases h4
theorem qnN (cs:Int):∀ t:LI,(t.map fun c=>(qb cs c).flatMap oneC).flatten=(t.flatMap (qb cs)).flatMap oneC
 | []=>rfl
 | c :: t=>by rw[yI,List.flatten_cons,List.flatMap_cons,List.flatMap_append,qnN cs t]
theorem qRs:∀ i:Fin 128,ofNat i.val=ofNat (wrap .u8 ((i.val:Nat):Int)).toNat:=by decide +kernel
theorem qTe (s:LU):z84 5 s=z85 s:=rfl
theorem has5 (c:Int):qH 5 c=qN c:=rfl
theorem octs5 (h:qN c=true):qb 5 c=qi c:=by
 unfold qb;rw[has5,h];rfl
theorem qML (h:32≤c∧c≤126):qN c=true:=by
 unfold qN qbn;rw[dT (by omega:(0:Int)≤c),dT (by omega:c≤1114111),dF (by omega:¬ (55296:Int)≤c),y5];rfl
theorem qRt (h:32≤c∧c≤126):qb 5 c=[ofNat (wrap .u8 c).toNat]:=by
 obtain⟨k,rfl⟩:∃ k:Nat,c=(k:Int):=⟨c.toNat,by omega⟩;rw[octs5 (qML h),qAs (qML h) (by omega),qRs ⟨k,by omega⟩]
theorem quF (h:z67 t=true):z85 (z68 t).1=t:=by
 have hp:=qsM h;have h3:t.all (qH 5)=true:=by
  rw[List.all_eq_true];intro c hc;rw[has5];exact qML (hp c hc)
 have hl:=qqw (cs:=5) (by omega) h3;have:=qnK (cs:=5) t (by omega) (by rw[hl]);rw[hl,qTe] at this;rw[quz h];have e:t.flatMap (qb 5)=t.map fun c=>ofNat (wrap .u8 c).toNat:=by
  rw[← qgB];exact qbq fun c hc=>qRt (hp c hc)
 rw[e] at this;exact this
theorem qsS (F:LU):z42 F F=true:=by rw[qsO];exact beq_self_eq_true _
def qRu (F:LU) (l:List qc):Prop:=∀ p∈l,p.1=F
theorem join_one {F:LU} (hF:z37 F=F) {l:List qc} (hn:qRu F l) (hl:l≠[]) (hu:usedP l F≠[]):z38 l=[(F,(z57 (pickP l (usedP l F)),()))]:=by
 have hmet:∀ r:List qc,(∀ p∈r,p.1=F)→joinF l r [F]=[]:=fun r=>by
  induction r with
  | nil=>intro _;rfl
  | cons q r ih =>
   intro h;unfold joinF;rw[h q List.mem_cons_self,hF,show ([F]:List LU).contains F=true from by simp];exact ih fun p hp=>h p (List.mem_cons_of_mem _ hp)
 cases l with
 | nil=>exact absurd rfl hl
 | cons p r =>
  show joinF (p :: r) (p :: r) []=_;unfold joinF;rw[hn p List.mem_cons_self,hF,hmet r fun q hq=>hn q (List.mem_cons_of_mem _ hq)];have:(usedP (p :: r) F).isEmpty=false:=by
   cases e:usedP (p :: r) F with
   | nil=>exact absurd e hu
   | cons _ _=>rfl
  rw[this];rfl
theorem qnO {F:LU} {f:qc→Bool}:∀ {l:List qc},(∀ p∈l,f p=false)→qm F f l=none
 | [],_=>rfl
 | p :: l,h=>by
  unfold qm;rw[h p List.mem_cons_self,y4,qnO fun q hq=>h q (List.mem_cons_of_mem _ hq)];rfl
def qah (F:LU) (vs:List LU):List qc:=(List.range vs.length).map fun k:Nat=>(F,((k:Int),(true,(vs.getD k [],()))))
theorem qkm (F:LU) (vs:List LU) (h:k < vs.length):(qah F vs)[k]? = some (F,((k:Int),(true,(vs.getD k [],())))):=by
 unfold qah;rw[List.getElem?_map,List.getElem?_range h];rfl
theorem qbh (F:LU) (vs:List LU):(qah F vs).length=vs.length:=by unfold qah;rw[yP,List.length_range]
theorem qkn {F:LU}:∀ (m n a:Nat) (g:Nat→LU),qm F (numP (n:Int)) ((List.range' a m).map fun k:Nat=>(F,((k:Int),(true,(g k,())))))=bif decide (a≤n)&&decide (n < a+m) then some (n - a) else none
 | 0,n,a,g=>by
  have:(decide (a≤n)&&decide (n < a+0))=false:=by
   by_cases h:a≤n
   ·rw[dF (by omega:¬ n < a+0),y4]
   ·rw[dF h,y5]
  rw[this];rfl
 | m+1,n,a,g=>by
  rw[List.range'_succ,yI];unfold qm;rw[qsS,y6,qkn m n (a+1) g];unfold numP
  by_cases h:a=n
  ·subst h;rw[beq_self_eq_true,dT (yv a),dT (by omega:a < a+(m+1)),Nat.sub_self];rfl
  ·rw[beq_eq_false_iff_ne.2 (by omega:((a:Nat):Int)≠(n:Int)),yd]
   by_cases h1:a≤n∧n < a+(m+1)
   ·rw[dT (by omega:a+1≤n),dT (by omega:n < a+1+m),dT h1.1,dT h1.2];simp only[yi,yc,yU];congr 1;omega
   ·have e1:(decide (a+1≤n)&&decide (n < a+1+m))=false:=by
     by_cases h2:a+1≤n
     ·rw[dF (by omega:¬ n < a+1+m),y4]
     ·rw[dF h2,y5]
    have e2:(decide (a≤n)&&decide (n < a+(m+1)))=false:=by
     by_cases h2:a≤n
     ·rw[dF (by omega:¬ n < a+(m+1)),y4]
     ·rw[dF h2,y5]
    rw[e1,e2];rfl
theorem qgV (F:LU) (vs:List LU):∀ (k n:Nat),vs.length < n+k→n≤vs.length→numsP (qah F vs) F k (n:Int)=(List.range' n (vs.length - n)).map fun i:Nat=>(i:Int)
 | 0,n,h,h2=>by omega
 | k+1,n,h,h2=>by
  have hp:=qkn (F:=F) vs.length n 0 fun k=>vs.getD k [];rw[← List.range_eq_range'] at hp;unfold numsP;rw[show qm F (numP (n:Int)) (qah F vs)=_ from hp]
  by_cases hn:n < vs.length
  ·rw[dT (by omega:0≤n),dT (by omega:n < 0+vs.length)];simp only[yi,yc,Nat.sub_zero];rw[show (n:Int)+1=((n+1:Nat):Int) from rfl,qgV F vs k (n+1) (by omega) (by omega)];rw[show vs.length - n=(vs.length - (n+1))+1 by omega,List.range'_succ,yI]
  ·have hn':n=vs.length:=by omega
   subst hn';rw[dF (by omega:¬ vs.length < 0+vs.length),y4,Nat.sub_self];rfl
theorem qMM (l:List qc):pickP l ((List.range l.length).map fun i=>((i:Nat):Int))=l:=by
 unfold pickP;rw[List.map_map];apply List.ext_getElem?
 intro i;rw[List.getElem?_map]
 by_cases h:i < l.length
 ·rw[List.getElem?_range h,yO h];simp only[yU,Function.comp_apply,tn];rw[show (([]:LU),((0:Int),(false,(([]:LU),()))))=par0 from rfl,qgT h]
 ·rw[yW (by rw[List.length_range];omega),yW (by omega)];rfl
theorem qnP (F:LU) (vs:List LU) (h0:0 < vs.length) (h1:vs.length≤1000):usedP (qah F vs) F=(List.range (qah F vs).length).map fun i=>((i:Nat):Int):=by
 have he:qm F extP (qah F vs)=none:=qnO fun p hp=>by
  obtain⟨k,_,rfl⟩:=List.mem_map.1 hp;unfold extP;rw[beq_eq_false_iff_ne.2 (by omega:((k:Nat):Int) ≠ -1)];rfl
 have hn:=qgV F vs 1001 0 (by omega) (by omega);rw[Nat.sub_zero,← List.range_eq_range'] at hn;unfold usedP;rw[he,qbh];simp only;rw[show numsP (qah F vs) F 1001 0=_ from hn];cases e:(List.range vs.length).map fun i=>((i:Nat):Int) with
 | nil =>
  have:=congrArg List.length e;rw[yP,List.length_range,List.length_nil] at this;omega
 | cons x xs=>cases qm F qaE (qah F vs) <;> rfl
def vOf (csn:LU) (k:Nat) (s:LU):LU:=(bif k==0 then csn++[39,39] else [])++s.flatMap oneC
def secV (name csn:LU) (k:Nat) (s:LU):LU:=secL name (k:Int) true (vOf csn k s)
def secs (name csn:LU):Nat→List LU→List LU
 | _,[]=>[]
 | a,s :: S=>secV name csn a s :: secs name csn (a+1) S
theorem qRv (c:UInt8):oneC c≠[]:=by
 unfold oneC;cases z35 c 256 <;> simp
theorem qqx (name csn:LU):∀ (S:List LU) (a:Nat) (s:LU),secs name csn a (S++[s])=secs name csn a S++[secV name csn (a+S.length) s]
 | [],a,s=>rfl
 | x :: S,a,s=>by
  show secV name csn a x :: secs name csn (a+1) (S++[s])=secV name csn a x :: (secs name csn (a+1) S++[secV name csn (a+(S.length+1)) s]);rw[qqx name csn S (a+1) s,show a+1+S.length=a+(S.length+1) by omega]
theorem qlN (name csn:LU):∀ (S:List LU) (a:Nat),(secs name csn a S).length=S.length
 | [],a=>rfl
 | x :: S,a=>by show (secs name csn (a+1) S).length+1=S.length+1;rw[qlN name csn S]
theorem qAE (name csn:LU):∀ (S:List LU) (a k:Nat) (x:LU),(secs name csn a S)[k]? = some x→∃ s,S[k]? = some s∧x=secV name csn (a+k) s
 | [],a,k,x,h=>by simp[secs] at h
 | s :: S,a,0,x,h=>by
  have h':secV name csn a s=x:=by simpa [secs] using h
  exact⟨s,rfl,h'.symm⟩
 | s :: S,a,k+1,x,h=>by
  have h':(secs name csn (a+1) S)[k]? = some x:=by simpa [secs] using h
  obtain⟨y,hy,hx⟩:=qAE name csn S (a+1) k x h';exact⟨y,by simpa using hy,by rw[hx,show a+1+k=a+(k+1) by omega]⟩
structure NumV (name csn:LU) (done:LU) (cnt:Nat) (st:PutT):Prop where
 is:∃ (S:List LU) (s:LU),st.2.2=secs name csn 0 S∧(st.2.1=secV name csn S.length s∧(S.flatten++s=done∧(S.length≤cnt∧∀ x∈(S++[s]).tail,x≠[])))
theorem qMN {csn done:LU} {cnt:Nat} {st:PutT} (h:NumV name csn done cnt st) {o:LU} (ho:o≠[]):NumV name csn (done++o) (cnt+1) (putU name csn st (o.flatMap oneC)):=by
 obtain⟨e,now,out⟩:=st;obtain⟨S,s,h1,h2,h3,h4,h5⟩:=h;simp only at h1 h2;unfold putU;simp only;cases !e&&decide (74 < now.length+(o.flatMap oneC).length) with
 | true =>
  simp only[yc];refine⟨S++[s],o,?_,?_,?_,by rw[yn];simp;omega,?_⟩
  ·rw[qqx,h1,h2,yE]
  ·show headL name ((out.length+1:Nat):Int) csn++o.flatMap oneC=_;rw[h1,qlN,qFL name csn (by omega),qsR,List.nil_append,yn,List.length_singleton];unfold secV vOf;rw[beq_eq_false_iff_ne.2 (by omega:S.length+1≠0)];rfl
  ·rw[List.flatten_append,List.flatten_singleton,h3]
  ·intro x hx;have:(S++[s]++[o]).tail=(S++[s]).tail++[o]:=List.tail_append_of_ne_nil (by simp);rw[this] at hx;rcases List.mem_append.1 hx with hx | hx
   ·exact h5 x hx
   ·rw[List.mem_singleton.1 hx];exact ho
 | false =>
  simp only[yd];refine⟨S,s++o,h1,?_,by rw[← yl,h3],by omega,?_⟩
  ·show now++o.flatMap oneC=_;rw[h2];unfold secV vOf;rw[qsR,yl,List.flatMap_append]
  ·intro x hx;cases S with
   | nil=>simp at hx
   | cons y S =>
    simp only[List.cons_append,List.tail_cons] at hx h5;rcases List.mem_append.1 hx with hx | hx
    ·exact h5 x (List.mem_append.2 (.inl hx))
    ·rw[List.mem_singleton.1 hx];have:=h5 s (List.mem_append.2 (.inr (List.mem_singleton.2 rfl)));intro e;exact this (List.append_eq_nil_iff.1 e).1
theorem qsT {name csn:LU}:∀ (os:List LU) (done:LU) (cnt:Nat) (st:PutT),NumV name csn done cnt st→(∀ o∈os,o≠[]) →
 NumV name csn (done++os.flatten) (cnt+os.length) ((os.map fun o=>o.flatMap oneC).foldl (putU name csn) st)
 | [],done,cnt,st,h,_=>by rw[List.flatten_nil,yG];exact h
 | o :: os,done,cnt,st,h,ho=>by
  rw[yI,List.foldl_cons,List.flatten_cons,← yl,yg,show cnt+(os.length+1)=cnt+1+os.length by omega];exact qsT os _ _ _ (qMN h (ho o List.mem_cons_self)) fun x hx=>ho x (List.mem_cons_of_mem _ hx)
theorem qMO (name csn:LU) (os:List LU) (ho:∀ o∈os,o≠[]) (hl:os.length≤100) :
 ∃ T:List LU,numL name csn (os.map fun o=>o.flatMap oneC)=secs name csn 0 T∧(T.flatten=os.flatten∧(0 < T.length∧(T.length≤100∧∀ x∈T.tail,x≠[]))):=by
 have hfin:∀ (done:LU) (cnt:Nat) (st:PutT),NumV name csn done cnt st→cnt≤99→∃ T:List LU,st.2.2++[st.2.1]=secs name csn 0 T∧(T.flatten=done∧(0 < T.length∧(T.length≤100∧∀ x∈T.tail,x≠[]))):=fun done cnt st h hc=>by
  obtain⟨S,s,h1,h2,h3,h4,h5⟩:=h;refine⟨S++[s],by rw[qqx,h1,h2,yE],by rw[List.flatten_append,List.flatten_singleton,h3],by rw[yn];simp,by rw[yn];simp;omega,h5⟩
 have h0:∀ e,NumV name csn [] 0 (e,(headL name 0 csn,[])):=fun e=>⟨[],[],rfl,by
  show headL name 0 csn=secL name ((0:Nat):Int) true ((csn++[39,39])++[]);rw[qqt name csn (by omega),yG];rfl,rfl,yv _,by simp⟩
 unfold numL;cases os with
 | nil=>exact hfin [] 0 _ (h0 true) (by omega)
 | cons o os =>
  rw[yg] at hl;rw[yI,List.foldl_cons];have h1:NumV name csn o 0 (putU name csn (true,(headL name 0 csn,[])) (o.flatMap oneC)):=by
   have e:putU name csn (true,(headL name 0 csn,[])) (o.flatMap oneC)=(false,(headL name 0 csn++o.flatMap oneC,[])):=rfl;rw[e];refine⟨[],o,rfl,?_,rfl,yv _,by simp⟩;show headL name 0 csn++o.flatMap oneC=secL name ((0:Nat):Int) true ((csn++[39,39])++o.flatMap oneC);rw[qqt name csn (by omega),qsR];rfl
  have h2:=qsT os o 0 _ h1 fun x hx=>ho x (List.mem_cons_of_mem _ hx);rw[List.flatten_cons];exact hfin _ _ _ h2 (by omega)
def vsOf (csn:LU) (T:List LU):List LU:=match T with
 | []=>[]
 | s :: S=>((csn++[39,39])++s.flatMap oneC) :: S.map fun s=>s.flatMap oneC
theorem qIl (csn:LU) (T:List LU) (k:Nat) (s:LU) (h:T[k]? = some s):(vsOf csn T).getD k []=vOf csn k s:=by
 cases T with
 | nil=>simp at h
 | cons x S =>
  cases k with
  | zero =>
   simp only[y3,ya] at h;subst h;rfl
  | succ k =>
   simp only[yZ] at h;show (S.map fun s=>s.flatMap oneC).getD k []=_;rw[yY,List.getElem?_map,h];unfold vOf;rw[beq_eq_false_iff_ne.2 (Nat.succ_ne_zero k)];rfl
theorem qcQ (csn:LU) (T:List LU):(vsOf csn T).length=T.length:=by
 cases T with
 | nil=>rfl
 | cons x S=>simp[vsOf]
theorem qnQ (F:LU) (vs:List LU):(qah F vs).map (fun p=>p.2.2.2.1)=vs:=by
 apply List.ext_getElem?
 intro k;rw[List.getElem?_map]
 by_cases h:k < vs.length
 ·rw[qkm F vs h,yO h];simp only[yU];rw[qgT h]
 ·rw[yW (by rw[qbh];omega),yW (by omega)];rfl
theorem qAF:∀ l:List qc,(∀ p∈l,p.2.2.1=true)→l.flatMap qcz=(l.map fun p=>p.2.2.2.1).flatMap z110
 | [],_=>rfl
 | p :: l,h=>by
  rw[List.flatMap_cons,yI,List.flatMap_cons,qAF l fun q hq=>h q (List.mem_cons_of_mem _ hq)];unfold qcz;rw[h p List.mem_cons_self];rfl
theorem qsU:∀ S:List LU,(S.map fun s=>s.flatMap oneC).flatMap z110=S.flatten
 | []=>rfl
 | s :: S=>by rw[yI,List.flatMap_cons,qqv,qsU S];rfl
theorem qnR (hcs:1≤cs∧cs≤5) (F:LU) (T:List LU) (h0:0 < T.length):z57 (qah F (vsOf (z75 cs) T))=z84 cs T.flatten:=by
 have hv:=qnQ F (vsOf (z75 cs) T);have he:∀ p∈qah F (vsOf (z75 cs) T),p.2.2.1=true:=fun p hp=>by
  obtain⟨k,_,rfl⟩:=List.mem_map.1 hp;rfl
 cases T with
 | nil=>exact absurd h0 (by decide)
 | cons s S =>
  cases e:qah F (vsOf (z75 cs) (s :: S)) with
  | nil=>rw[e] at hv;cases hv
  | cons p r =>
   rw[e,yI] at hv;rw[e] at he;obtain⟨h1,h2⟩:=List.cons.inj hv;have hp:=he p List.mem_cons_self;have hh:=qIj cs (s.flatMap oneC);show (bif p.2.2.1 then z84 (csP p) (octsP (p :: r)) else z85 (octsP (p :: r)))=_;rw[hp,yc];have hc:csP p=cs:=by
    unfold csP;rw[hp,h1,hh,qjf cs hcs];rfl
   have ho:octsP (p :: r)=(s :: S).flatten:=by
    show qAV p++r.flatMap qcz=_;unfold qAV;rw[hp,h1,hh,yc,qAF r fun q hq=>he q (List.mem_cons_of_mem _ hq),h2,qsU,List.flatten_cons];show z110 (s.flatMap oneC)++_=_;rw[qqv]
   rw[hc,ho]
structure BackG (name:LU) (t:LI) (ps:List qc):Prop where
 names:∀ p∈ps,p.1=z37 name∧(-1≤p.2.1∧p.2.1 < 1000)
 vals:∀ p∈ps,p.2.2.2.1.length≤1000
 len:ps.length≤101
 join:z38 ps=[(z37 name,(t,()))]
theorem qIm (name:LU) (n:Int) (e:Bool) (v:LU):v.length≤(secL name n e v).length:=by
 unfold secL;rw[yn,yg];omega
theorem qTf (x:LU):x.length≤(quoL x).length:=by
 have:∀ x:LU,x.length≤(x.flatMap quoC).length:=fun x=>by
  induction x with
  | nil=>simp
  | cons c x ih =>
   have h1:1≤(quoC c).length:=by unfold quoC;cases (c==34)||(c==92) <;> simp
   rw[List.flatMap_cons,yn,yg];omega
 have:=this x;unfold quoL;rw[yg,yn];omega
theorem qAG (hn:n = -1) (hl:(secL name n e v).length≤1000) (hv:(tokV v∧y=v)∨v=quoL y)
 (ht:z57 [(z37 name,(n,(e,(y,()))))]=t):BackG name t [(z37 name,(n,(e,(y,()))))]:=by
 subst hn;have hyl:y.length≤v.length:=by
  rcases hv with ⟨_,rfl⟩ | rfl
  ·exact yv _
  ·exact qTf y
 have h1:=qIm name (-1) e v;have hF:=qlL name;have hu:usedP [(z37 name,((-1:Int),(e,(y,()))))] (z37 name)=[0]:=by
  have hs:=qsS (z37 name);unfold usedP;cases e with
  | true =>
   rw[show qm (z37 name) extP [(z37 name,((-1:Int),(true,(y,()))))]=some 0 from by unfold qm;rw[hs];rfl];rfl
  | false =>
   rw[show qm (z37 name) extP [(z37 name,((-1:Int),(false,(y,()))))]=none from by unfold qm;rw[hs];rfl,
    show numsP [(z37 name,((-1:Int),(false,(y,()))))] (z37 name) 1001 0=[] from by
     unfold numsP;rw[show qm (z37 name) (numP 0) [(z37 name,((-1:Int),(false,(y,()))))]=none from by unfold qm;rw[hs];rfl],
    show qm (z37 name) qaE [(z37 name,((-1:Int),(false,(y,()))))]=some 0 from by unfold qm;rw[hs];rfl]
   rfl
 refine⟨fun p hp=>?_,fun p hp=>?_,by simp,?_⟩
 ·rw[List.mem_singleton.1 hp];exact⟨rfl,by simp⟩
 ·rw[List.mem_singleton.1 hp];show y.length≤_;omega
 ·rw[join_one hF (fun p hp=>by rw[List.mem_singleton.1 hp]) (by simp) (by rw[hu];simp),hu];show [(z37 name,(z57 [(z37 name,((-1:Int),(e,(y,()))))],()))]=_;rw[ht]
theorem qMP (name:LU) (t:LI) (hok:ok36 name t=true) (hi:i32s t=true) (h0:(qad name t).2=0):BackG name t (z39 (textL (qad name t).1))∧∀ x∈(qad name t).1,Shut ([13,10,32]++x):=by
 obtain⟨hnl,htl⟩:=qnG hok;obtain⟨k1,k2⟩:=qlB hok;revert h0 k1 k2;unfold qad;cases hq:qjx name t != 0 with
 | true=>intro h0 _ _;simp only[yc] at h0;rw[h0] at hq;cases hq
 | false =>
  have hq0:qjx name t=0:=by
   unfold bne at hq;simpa using hq
  have hm:mayN name=true:=by
   have h1:=hq0;unfold qjx at h1;cases hm:mayN name with
   | false=>rw[hm] at h1;cases h1
   | true=>rfl
  cases hp:(z48 name t).2 with
  | true =>
   intro _ k1 k2;simp only[yd,yc] at k1 k2 ⊢;have hpl:z67 t=true:=by
    unfold z48 at hp;cases e:z67 t with
    | true=>rfl
    | false=>rw[e] at hp;cases hp
   have hx:qjy name t=secL name (-1) false (atomL (z68 t).1):=by
    unfold qjy secL nameL;simp
   have hv:(tokV (atomL (z68 t).1)∧(z68 t).1=atomL (z68 t).1)∨atomL (z68 t).1=quoL (z68 t).1:=by
    unfold atomL;cases htk:tokB (z68 t).1 with
    | true =>
     unfold tokB at htk;simp only[yf,Bool.not_eq_true'] at htk;exact .inl ⟨⟨fun e=>absurd htk.1 (by rw[show (z68 t).1=[] from e];decide),htk.2⟩,rfl⟩
    | false=>exact .inr rfl
   have hl:=k2 _ (List.mem_singleton.2 rfl);rw[hx] at hl;have hr:=qje hm [qjy name t] [(z37 name,(-1,(false,((z68 t).1,()))))] k2 (fun k x hk=>by
    cases k with
    | zero =>
     simp only[y3,ya] at hk;exact⟨_,rfl,⟨-1,false,_,_,by rw[← hk,hx],rfl,.inl rfl,fun _=>rfl,hv⟩⟩
    | succ k=>simp at hk) rfl
   refine⟨?_,hr.2⟩;rw[hr.1];refine qAG rfl hl hv ?_;show z85 ((z68 t).1++[])=t;rw[yG];exact quF hpl
  | false =>
   cases hs:(z49 t).2 != 0 with
   | true=>intro h0 _ _;simp only[yc,yd] at h0;rw[h0] at hs;cases hs
   | false =>
    have hs0:(z49 t).2=0:=by
     unfold bne at hs;simpa using hs
    obtain⟨hcs,hback,hun,hnc⟩:=qMK hi hs0;generalize z49 t=R at *
    have hct:=qMC R.1;simp only[yd];rw[hun];have hfu:=qnN R.1 t;cases hw:decide ((headL name (-1) (z75 R.1)++(t.map fun c=>(qb R.1 c).flatMap oneC).flatten).length≤74) with
    | true =>
     intro _ k1 k2;simp only[yc] at k1 k2 ⊢;rw[hfu] at k2 ⊢;have hx:headL name (-1) (z75 R.1)++(t.flatMap (qb R.1)).flatMap oneC=secL name (-1) true ((z75 R.1++[39,39])++(t.flatMap (qb R.1)).flatMap oneC):=by
      rw[qqt name _ (by omega),qsR]
     have hv:tokV ((z75 R.1++[39,39])++(t.flatMap (qb R.1)).flatMap oneC):=qAz (qIi hct) (qsP qMB _);have hl:=k2 _ (List.mem_singleton.2 rfl);rw[hx] at hl;have hr:=qje hm [headL name (-1) (z75 R.1)++(t.flatMap (qb R.1)).flatMap oneC] [(z37 name,(-1,(true,((z75 R.1++[39,39])++(t.flatMap (qb R.1)).flatMap oneC,()))))] k2 (fun k x hk=>by
      cases k with
      | zero =>
       simp only[y3,ya] at hk;exact⟨_,rfl,⟨-1,true,_,_,by rw[← hk,hx],rfl,.inl rfl,fun h=>(by cases h),.inl ⟨hv,rfl⟩⟩⟩
      | succ k=>simp at hk) rfl
     refine⟨?_,hr.2⟩;rw[hr.1];refine qAG rfl hl (.inl ⟨hv,rfl⟩) ?_;have hh:=qIj R.1 ((t.flatMap (qb R.1)).flatMap oneC);show z84 (csP _) (qAV _++[])=t;unfold csP qAV;simp only[hh,qjf R.1 hcs,yG,qqv,yc];exact hback
    | false =>
     intro _ k1 k2;simp only[yd] at k1 k2 ⊢;have ho:∀ o∈t.map (qb R.1),o≠[]:=fun o hom=>by
      obtain⟨c,hc,rfl⟩:=List.mem_map.1 hom;exact hnc c hc
     obtain⟨T,hT,hfl,hp0,hp1,hne⟩:=qMO name (z75 R.1) (t.map (qb R.1)) ho (by rw[yP];omega);rw[List.map_map] at hT;have hT':numL name (z75 R.1) (t.map fun c=>(qb R.1 c).flatMap oneC)=secs name (z75 R.1) 0 T:=hT;rw[hT'] at k1 k2 ⊢;have hvt:∀ (k:Nat) s,T[k]? = some s→tokV (vOf (z75 R.1) k s):=fun k s hk=>by
      unfold vOf;cases k with
      | zero=>exact qAz (qIi hct) (qsP qMB _)
      | succ k =>
       rw[beq_eq_false_iff_ne.2 (Nat.succ_ne_zero k),yd,List.nil_append];have hs:s∈T.tail:=by
        cases T with
        | nil=>simp at hk
        | cons x T=>simp only[yZ] at hk;exact List.mem_of_getElem? hk
       refine⟨fun e=>?_,qsP qMB _⟩;cases s with
       | nil=>exact hne _ hs rfl
       | cons c s =>
        rw[List.flatMap_cons] at e;have:=(List.append_eq_nil_iff.1 e).1;exact qRv c this
     have hr:=qje hm (secs name (z75 R.1) 0 T) (qah (z37 name) (vsOf (z75 R.1) T)) k2 (fun k x hk=>by
      obtain⟨s,hs,hx⟩:=qAE name (z75 R.1) T 0 k x hk;have hkl:=(List.getElem?_eq_some_iff.1 hs).1;rw[yE] at hx;refine⟨_,qkm _ _ (by rw[qcQ];exact hkl),⟨(k:Int),true,vOf (z75 R.1) k s,_,hx,rfl,.inr ⟨by omega,by omega⟩,fun h=>(by cases h),.inl ⟨hvt k s hs,qIl _ _ _ _ hs⟩⟩⟩) (by rw[qbh,qcQ,qlN])
     refine⟨?_,hr.2⟩;rw[hr.1];have hF:=qlL name;have hul:=qnP (z37 name) (vsOf (z75 R.1) T) (by rw[qcQ];exact hp0) (by rw[qcQ];omega);have hpos:qah (z37 name) (vsOf (z75 R.1) T)≠[]:=fun e=>by
      have:=congrArg List.length e;rw[qbh,qcQ,List.length_nil] at this;omega
     refine⟨fun p hp=>?_,fun p hp=>?_,by rw[qbh,qcQ];omega,?_⟩
     ·obtain⟨k,hk,rfl⟩:=List.mem_map.1 hp;rw[List.mem_range,qcQ] at hk;exact⟨rfl,by show -1≤(k:Int)∧(k:Int) < 1000;omega⟩
     ·obtain⟨k,hk,rfl⟩:=List.mem_map.1 hp;rw[List.mem_range,qcQ] at hk;have hs:T[k]? = some T[k]:=yO hk;show ((vsOf (z75 R.1) T).getD k []).length≤1000;rw[qIl _ _ _ _ hs];obtain⟨x,hx⟩:∃ x,(secs name (z75 R.1) 0 T)[k]? = some x:=⟨_,yO (by rw[qlN];exact hk)⟩;obtain⟨s,hs',hxe⟩:=qAE name (z75 R.1) T 0 k x hx;rw[hs] at hs';cases hs';have:=k2 x (List.mem_of_getElem? hx);rw[hxe,yE] at this;have h3:=qIm name (k:Int) true (vOf (z75 R.1) k T[k]);unfold secV at this;omega
     ·have hj:=join_one hF (l:=qah (z37 name) (vsOf (z75 R.1) T)) (fun p hp=>by obtain⟨k,_,rfl⟩:=List.mem_map.1 hp;rfl) hpos (by
       rw[hul];intro e;have:=congrArg List.length e;rw[yP,List.length_range,qbh,qcQ,List.length_nil] at this;omega)
      rw[hj,hul,qMM,qnR hcs _ _ hp0,hfl];rw[show (t.map (qb R.1)).flatten=t.flatMap (qb R.1) from rfl,hback]
end
section
theorem qKr:∀ (s0:LU),(qFU s0=true)→∃ n,qQd n s0=qnd (z23 s0).1 (z23 s0).2.1 (z23 s0).2.2:=fun s h=>⟨0,by
 have hl:lenOk s=true:=h;have hl':=qf hl;have hT:∀ i,qeE (z36 s i).1=true:=fun i=>qe (by
  unfold z36 qF;cases qw s i==s.length with
  | true=>simp
  | false =>
   cases (tokN s (qw s i)).isEmpty with
   | true=>simp
   | false =>
    simp only[yd];have h1:(tokN s (qw s i)).length≤(s.drop (qw s i)).length:=by
     unfold tokN;exact(List.takeWhile_sublist _).length_le
    rw[yK] at h1;omega)
 unfold qQd qfj qhv qfi;simp only[show ∀ i,qjv s i=true from fun _=>hl,show ∀ i c,qnW s i c=true from fun _ _=>hl,show ∀ i,qdy s i=true from fun _=>hl,hT,yi,yc];unfold z23 tkB tkS tkA nilC;cases (z36 s (z22 s 0)).2.2 != 0 with
 | true=>rfl
 | false =>
  cases (z24 s (z36 s (z22 s 0)).2.1 47).2 with
  | false=>rfl
  | true =>
   cases (z36 s (z22 s (z24 s (z36 s (z22 s 0)).2.1 47).1)).2.2 != 0 <;> rfl⟩
theorem qyz (s:LU) (i:Int) (c:UInt8):0≤(z24 s i c).1∧(z24 s i c).1≤((s.length:Nat):Int):=by
 unfold z24
 by_cases h:gapW s (qw s i) < s.length
 ·rw[dT h];cases s.getD (gapW s (qw s i)) 0==c with
  | true =>
   simp only[y6,yc];omega
  | false =>
   simp only[y6,yd];unfold qw;omega
 ·rw[dF h];simp only[y5,yd];unfold qw;omega
theorem qKs:∀ (s0:LU),(qqA s0=true)→∃ n,qQt n s0=qjR (z12 s0).1 (z12 s0).2:=fun s h=>⟨0,by
 unfold qqA at h;rw[yf] at h;obtain⟨hl,hr⟩:=h;unfold restC at hr;unfold qQt qdR qhE;obtain⟨k1,k2⟩:=qyz s (z23 s).2.1 59;simp only[show ∀ i,qdy s i=true from fun _=>hl,show qFU s=true from hl,show ∀ i c,qnW s i c=true from fun _ _=>hl,yi,yc];rw[dT k1,dT k2,dT (Int.le_refl _),tn,List.take_length,hr];unfold z12 restC nilC;cases z22 s 0==((s.length:Nat):Int) with
 | true=>rfl
 | false =>
  cases (z23 s).2.2 != 0 with
  | true=>rfl
  | false =>
   cases z22 s (z23 s).2.1==((s.length:Nat):Int) with
   | true=>rfl
   | false =>
    cases (z24 s (z23 s).2.1 59).2 with
    | false=>rfl
    | true =>
     simp only[Bool.not_true,yi,yd,yc,tn,List.take_length,hr]⟩
abbrev dP:PairT:=(([]:LU),(([]:LI),()))
theorem qrE (m:Nat) (l:List PairT) (hl:l.length≤6) (ho:∀ p∈l,ok36 p.1 p.2.1=true):∀ (d i n:Nat) (out:LU),i+d=l.length→d < n→out.length≤201+i*101404 →
 qnt qzm (qez m) n out l ((l.length:Nat):Int) (i:Int)=qzm (laysC (l.drop i) out).1 (laysC (l.drop i) out).2
 | d,i,0,_,_,h,_=>absurd h (by omega)
 | 0,i,n+1,out,hi,_,_=>by
  show qgw qzm (qez m) (qnt qzm (qez m) n) n out l ((l.length:Nat):Int) (i:Int)=_;unfold qgw qbB qbA;rw[dF (by omega),yA (by omega)];rfl
 | d+1,i,n+1,out,hi,hn,hout=>by
  show qgw qzm (qez m) (qnt qzm (qez m) n) n out l ((l.length:Nat):Int) (i:Int)=_;unfold qgw qbB qbA;have hit:i < l.length:=by omega
  have hmem:l.getD i dP∈l:=by
   rw[yY,yO hit];exact List.getElem_mem hit
  rw[dT (show ((i:Nat):Int) < ((l.length:Nat):Int) by omega),dT (show (0:Int)≤((i:Nat):Int) by omega),qdw hit dP,tn,wrC (by omega)];have hok:=ho _ hmem;generalize l.getD i dP=p at *
  obtain⟨k1,k2⟩:=qlB hok;have k3:=qAx _ k2;rw[show qGF p.1 p.2.1=true from hok,show z21 p.1 p.2.1=(textL (qad p.1 p.2.1).1,(qad p.1 p.2.1).2) from rfl];simp only[yc,yi];rw[show laysC (p :: l.drop (i+1)) out=bif (qad p.1 p.2.1).2 != 0 then ([],(qad p.1 p.2.1).2) else laysC (l.drop (i+1)) (out++textL (qad p.1 p.2.1).1) from rfl];cases (qad p.1 p.2.1).2 != 0 with
  | true=>rfl
  | false =>
   rw[dT (show out.length+(textL (qad p.1 p.2.1).1).length≤room by show _≤1073741824;omega)];simp only[yc,yd];rw[show ((i:Nat):Int)+1=((i+1:Nat):Int) by omega];exact qrE m l hl ho d (i+1) n _ (by omega) (by omega) (by rw[yn];omega)
theorem qKt:∀ (t0:LU×(LU×((List (LU×(LI×Unit)))×Unit))),(quJ t0=true)→∃ n,qEm n t0=qzm (z11 t0).1 (z11 t0).2:=fun t h=>⟨7,by
 unfold quJ at h;simp only[yf,ym] at h;obtain⟨⟨h1,h2⟩,h3,h4⟩:=h;have hlp:=qrE 7 t.2.2.1 h3 (fun p hp=>List.all_eq_true.1 h4 p hp) t.2.2.1.length 0 7 ((t.1++[47])++t.2.1) (by omega) (by omega) (by rw[yn,yn,List.length_singleton];omega);rw[yw] at hlp;unfold qEm qhK z11;rw[show qnZ t.1=true from dT (by omega),show qnZ t.2.1=true from dT (by omega),show z19 t.1=tokB t.1 from rfl,show z19 t.2.1=tokB t.2.1 from rfl,show qaH t.1=true from qe (by omega),show z20 t.1=t.1 from rfl,
  dT (show t.1.length+([(47:UInt8)]:LU).length≤room by show t.1.length+1≤1073741824;omega),dT (show (t.1++([(47:UInt8)]:LU)).length+t.2.1.length≤room by rw[yn,List.length_singleton];show _≤1073741824;omega)]
 cases tokB t.1 with
 | false=>rfl
 | true =>
  cases tokB t.2.1 with
  | false=>rfl
  | true =>
   simp only[yi,Bool.not_true,yd,yc,qeL];exact hlp⟩
theorem qGP (m:Nat) (a b:CtT) (hl:b.2.2.1.length=a.2.2.1.length) (ho:qnY a.2.2.1=true):∀ (d i n:Nat),i+d=a.2.2.1.length→d < n →
 qnv qga (qeA m) n a b ((a.2.2.1.length:Nat):Int) (i:Int)=qga (sameP (a.2.2.1.drop i) (b.2.2.1.drop i))
 | d,i,0,_,h=>absurd h (by omega)
 | 0,i,n+1,hi,_=>by
  show qgy qga (qeA m) (qnv qga (qeA m) n) n a b ((a.2.2.1.length:Nat):Int) (i:Int)=_;unfold qgy qag;rw[dF (by omega),yA (by omega:a.2.2.1.length≤i),yA (by omega:b.2.2.1.length≤i)];rfl
 | d+1,i,n+1,hi,hn=>by
  show qgy qga (qeA m) (qnv qga (qeA m) n) n a b ((a.2.2.1.length:Nat):Int) (i:Int)=_;unfold qgy qag;have hit:i < a.2.2.1.length:=by omega
  have hmem:a.2.2.1.getD i dP∈a.2.2.1:=by
   rw[yY,yO hit];exact List.getElem_mem hit
  unfold qnY at ho;simp only[yf,ym] at ho;have hp:=List.all_eq_true.1 ho.2 _ hmem;rw[yf] at hp;have ih:=qGP m a b hl (by unfold qnY;rw[dT ho.1,ho.2];rfl) d (i+1) n (by omega) (by omega);rw[dT (show ((i:Nat):Int) < ((a.2.2.1.length:Nat):Int) by omega),dT (show (0:Int)≤((i:Nat):Int) by omega),dT (show ((i:Nat):Int) < ((b.2.2.1.length:Nat):Int) by omega),qdw hit dP,qdw (show i < b.2.2.1.length by omega) dP,tn,wrC (by omega),
   show z7_ok (a.2.2.1.getD i dP).1 (b.2.2.1.getD i dP).1=true from hp.1,show qGj (a.2.2.1.getD i dP).2.1 (b.2.2.1.getD i dP).2.1=true from hp.2,
   show ((i:Nat):Int)+1=((i+1:Nat):Int) by omega,ih]
  show _=qga ((decide ((a.2.2.1.getD i dP).1=(b.2.2.1.getD i dP).1)&&decide ((a.2.2.1.getD i dP).2.1=(b.2.2.1.getD i dP).2.1))&&sameP (a.2.2.1.drop (i+1)) (b.2.2.1.drop (i+1)));rw[show z7 (a.2.2.1.getD i dP).1 (b.2.2.1.getD i dP).1=decide ((a.2.2.1.getD i dP).1=(b.2.2.1.getD i dP).1) from rfl,show z26 (a.2.2.1.getD i dP).2.1 (b.2.2.1.getD i dP).2.1=decide ((a.2.2.1.getD i dP).2.1=(b.2.2.1.getD i dP).2.1) from rfl];cases decide ((a.2.2.1.getD i dP).1=(b.2.2.1.getD i dP).1) <;> cases decide ((a.2.2.1.getD i dP).2.1=(b.2.2.1.getD i dP).2.1) <;> rfl
theorem qrF:∀ a b:List PairT,a.length≠b.length→sameP a b=false
 | [],[],h=>absurd rfl h
 | [],_ :: _,_=>rfl
 | _ :: _,[],_=>rfl
 | p :: a,q :: b,h=>by
  show ((decide (p.1=q.1)&&decide (p.2.1=q.2.1))&&sameP a b)=false;rw[qrF a b (fun e=>h (by rw[yg,yg,e])),y4]
theorem qKu:∀ (a0:LU×(LU×((List (LU×(LI×Unit)))×Unit))) (b1:LU×(LU×((List (LU×(LI×Unit)))×Unit))),(quK a0 b1=true)→∃ n,qEo n a0 b1=qga (z13 a0 b1):=fun a b h=>⟨a.2.2.1.length+1,by
 unfold quK at h;simp only[yf] at h;obtain⟨⟨h1,h2⟩,h3⟩:=h;unfold qEo z13;rw[show z7_ok a.1 b.1=true from h1,show z7_ok a.2.1 b.2.1=true from h2,show z7 a.1 b.1=decide (a.1=b.1) from rfl,show z7 a.2.1 b.2.1=decide (a.2.1=b.2.1) from rfl];cases decide (a.1=b.1) with
 | false=>rfl
 | true =>
  cases decide (a.2.1=b.2.1) with
  | false=>rfl
  | true =>
   simp only[yi,Bool.not_true,yc,yd,y6]
   by_cases hl:b.2.2.1.length=a.2.2.1.length
   ·have:=qGP (a.2.2.1.length+1) a b hl h3 a.2.2.1.length 0 (a.2.2.1.length+1) (by omega) (by omega);rw[yw,yw] at this;rw[show (((a.2.2.1.length:Nat):Int) != ((b.2.2.1.length:Nat):Int))=false by rw[hl];simp];exact this
   ·rw[qrF _ _ (fun e=>hl e.symm),show (((a.2.2.1.length:Nat):Int) != ((b.2.2.1.length:Nat):Int))=true by rw[bne_iff_ne];omega];rfl⟩
end
section
def sameF (F:LU) (p:qc):Bool:=z42 p.1 F
def findY (F:LU) (f:qc→Bool) (l:List qc):Option qc:=l.find? fun p=>sameF F p&&f p
abbrev dZ:qc:=([],(0,(false,([],()))))
theorem qff (F:LU) (f:qc→Bool):∀ l:List qc,(match qm F f l with | some i=>findY F f l=some (l.getD i dZ) | none=>findY F f l=none)
 | []=>rfl
 | p :: l=>by
  have ih:=qff F f l;unfold qm;unfold findY;rw[List.find?_cons,show (sameF F p&&f p)=(z42 p.1 F&&f p) from rfl];cases z42 p.1 F&&f p with
  | true=>rfl
  | false =>
   simp only[yd];unfold findY at ih;revert ih;cases qm F f l with
   | none=>intro ih;exact ih
   | some i=>intro ih;exact ih
def numsG (l:List qc) (F:LU):Nat→Int→List qc
 | 0,_=>[]
 | k+1,n=>match findY F (numP n) l with
  | some p=>p :: numsG l F k (n+1)
  | none=>[]
def usedG (l:List qc) (F:LU):List qc :=
 match findY F extP l with
 | some p=>[p]
 | none=>match numsG l F 1001 0,findY F qaE l with
  | [],some p=>[p]
  | o,_=>o
theorem qrG (l:List qc) (F:LU):∀ (k:Nat) (n:Int),pickP l (numsP l F k n)=numsG l F k n
 | 0,_=>rfl
 | k+1,n=>by
  have h:=qff F (numP n) l;have ih:=qrG l F k (n+1);unfold numsP numsG;revert h;cases qm F (numP n) l with
  | none=>intro h;rw[h];rfl
  | some i =>
   intro h;rw[h,← ih];rfl
theorem qlh (l:List qc) (F:LU):pickP l (usedP l F)=usedG l F:=by
 have h1:=qff F extP l;have h2:=qff F qaE l;have h3:=qrG l F 1001 0;unfold usedP usedG;revert h1;cases qm F extP l with
 | some i=>intro h1;rw[h1];rfl
 | none =>
  intro h1;rw[h1];simp only;revert h2 h3;cases hp:qm F qaE l with
  | none =>
   intro h2 h3;rw[h2,← h3];cases numsP l F 1001 0 with
   | nil=>rfl
   | cons a b=>rfl
  | some i =>
   intro h2 h3;rw[h2,← h3];cases numsP l F 1001 0 with
   | nil=>rfl
   | cons a b=>rfl
theorem qdG (F:LU) (f:qc→Bool):∀ l:List qc,findY F f (l.filter (sameF F))=findY F f l
 | []=>rfl
 | p :: l=>by
  have ih:=qdG F f l;unfold findY at ih ⊢;rw[List.filter_cons,List.find?_cons];cases h:sameF F p with
  | true=>rw[if_pos rfl,List.find?_cons,h,ih]
  | false=>rw[if_neg (by decide),ih];rfl
theorem qjE (F:LU) (l:List qc):∀ (k:Nat) (n:Int),numsG (l.filter (sameF F)) F k n=numsG l F k n
 | 0,_=>rfl
 | k+1,n=>by
  unfold numsG;rw[qdG,qjE F l k (n+1)]
theorem quf (F:LU) (l:List qc):usedG (l.filter (sameF F)) F=usedG l F:=by
 unfold usedG;rw[qdG,qdG,qjE]
theorem qmW (l:List qc) (F:LU):(usedP l F).isEmpty=(usedG l F).isEmpty:=by
 rw[← qlh];unfold pickP;cases usedP l F <;> rfl
structure BlockG (F:LU) (t:LI) (b:List qc):Prop where
 fold:z37 F=F
 names:∀ p∈b,p.1=F
 some:b≠[]
 used:(usedG b F).isEmpty=false
 text:z57 (usedG b F)=t
theorem qmX (l:List qc) (M:List LU) (r:List qc):∀ b:List qc,(∀ p∈b,M.contains (z37 p.1)=true)→joinF l (b++r) M=joinF l r M
 | [],_=>rfl
 | p :: b,h=>by
  rw[List.cons_append];show (bif M.contains (z37 p.1)||(usedP l (z37 p.1)).isEmpty then joinF l (b++r) M else _)=_;rw[h p List.mem_cons_self,Bool.true_or,yc];exact qmX l M r b fun q hq=>h q (List.mem_cons_of_mem _ hq)
theorem qug {F:LU} {t:LI} {b:List qc} (hb:BlockG F t b) (l:List qc) (hf:l.filter (sameF F)=b) (M:List LU) (hM:M.contains F=false) (r:List qc) :
 joinF l (b++r) M=(F,(t,())) :: joinF l r (F :: M):=by
 have hu:usedG l F=usedG b F:=by rw[← quf,hf]
 cases b with
 | nil=>exact absurd rfl hb.some
 | cons p b =>
  have hp:z37 p.1=F:=by rw[hb.names p List.mem_cons_self,hb.fold]
  rw[List.cons_append];show (bif M.contains (z37 p.1)||(usedP l (z37 p.1)).isEmpty then _ else (z37 p.1,(z57 (pickP l (usedP l (z37 p.1))),())) :: joinF l (b++r) (z37 p.1 :: M))=_;rw[hp,hM,qmW,qlh,hu,hb.used,hb.text];simp only[Bool.or_false,yd];rw[qmX l (F :: M) r b fun q hq=>by rw[hb.names q (List.mem_cons_of_mem _ hq),hb.fold];simp]
theorem qrH {F:LU} (l:List qc) (hF:z37 F=F) (hu:(usedP l F).isEmpty=true):∀ r:List qc,(∀ p∈r,p.1=F)→joinF l r []=[]
 | [],_=>rfl
 | p :: r,h=>by
  show (bif ([]:List LU).contains (z37 p.1)||(usedP l (z37 p.1)).isEmpty then joinF l r [] else _)=_;rw[h p List.mem_cons_self,hF,hu,Bool.or_true,yc];exact qrH l hF hu r fun q hq=>h q (List.mem_cons_of_mem _ hq)
theorem qyA {name:LU} {t:LI} {ps:List qc} (h:BackG name t ps):BlockG (z37 name) t ps:=by
 obtain⟨h1,_,_,h4⟩:=h;have hF:=qlL name;have hn:∀ p∈ps,p.1=z37 name:=fun p hp=>(h1 p hp).1;have hs:ps≠[]:=fun e=>by rw[e] at h4;cases h4
 have hu:(usedP ps (z37 name)).isEmpty=false:=by
  cases e:(usedP ps (z37 name)).isEmpty with
  | false=>rfl
  | true =>
   have:=qrH ps hF e ps hn;unfold z38 at h4;rw[this] at h4;cases h4
 have hj:=join_one hF (l:=ps) hn hs (fun e=>by rw[e] at hu;cases hu);rw[h4,qlh] at hj;refine⟨hF,hn,hs,by rw[← qmW];exact hu,?_⟩;exact(congrArg (fun x:List PairT=>(x.getD 0 dP).2.1) hj).symm
theorem qfZ {F:LU}:∀ {l:List qc},(∀ p∈l,sameF F p=false)→l.filter (sameF F)=[]
 | [],_=>rfl
 | p :: l,h=>by
  rw[List.filter_cons,h p List.mem_cons_self,if_neg (by decide)];exact qfZ fun q hq=>h q (List.mem_cons_of_mem _ hq)
theorem qmY {F:LU}:∀ {l:List qc},(∀ p∈l,sameF F p=true)→l.filter (sameF F)=l
 | [],_=>rfl
 | p :: l,h=>by
  rw[List.filter_cons,h p List.mem_cons_self,if_pos rfl,qmY fun q hq=>h q (List.mem_cons_of_mem _ hq)]
theorem qjF (B:PairT→List qc):∀ (P:List PairT),(∀ p∈P,BlockG (z37 p.1) p.2.1 (B p))→(P.map fun p=>z37 p.1).Nodup →
 ∀ (A:List qc) (M:List LU),(∀ p∈P,∀ q∈A,sameF (z37 p.1) q=false)→(∀ p∈P,M.contains (z37 p.1)=false) →
 ∀ l,l=A++P.flatMap B→joinF l (P.flatMap B) M=P.map fun p=>(z37 p.1,(p.2.1,()))
 | [],_,_,_,_,_,_,_,_=>rfl
 | p :: P,hB,hN,A,M,hA,hM,l,hl=>by
  rw[yI,List.nodup_cons] at hN;rw[List.flatMap_cons] at hl ⊢;have hb:=hB p List.mem_cons_self;have hdiff:∀ q∈P,z37 q.1≠z37 p.1:=fun q hq e=>hN.1 (List.mem_map.2 ⟨q,hq,e⟩);have hsame:∀ (F:LU) (x:qc),z37 F=F→z37 x.1=x.1→sameF F x=(x.1==F):=fun F x h1 h2=>by
   unfold sameF;rw[qsO,h1,h2]
  have hfil:l.filter (sameF (z37 p.1))=B p:=by
   rw[hl,List.filter_append,List.filter_append,qfZ (hA p List.mem_cons_self),List.nil_append];rw[qmY (l:=B p) fun x hx=>by
    rw[hsame _ _ hb.fold (by rw[hb.names x hx];exact hb.fold),hb.names x hx];exact beq_self_eq_true _]
   rw[qfZ (l:=P.flatMap B) fun x hx=>by
    obtain⟨q,hq,hxq⟩:=List.mem_flatMap.1 hx;have hq':=hB q (List.mem_cons_of_mem _ hq);rw[hsame _ _ hb.fold (by rw[hq'.names x hxq];exact hq'.fold),hq'.names x hxq];exact beq_eq_false_iff_ne.2 (hdiff q hq),yG]
  rw[qug hb l hfil M (hM p List.mem_cons_self),yI];rw[qjF B P (fun q hq=>hB q (List.mem_cons_of_mem _ hq)) hN.2 (A++B p) (z37 p.1 :: M) (fun q hq x hx=>by
   rcases List.mem_append.1 hx with h | h
   ·exact hA q (List.mem_cons_of_mem _ hq) x h
   ·have hq':=hB q (List.mem_cons_of_mem _ hq);rw[hsame _ _ hq'.fold (by rw[hb.names x h];exact hb.fold),hb.names x h];exact beq_eq_false_iff_ne.2 fun e=>hdiff q hq e.symm) (fun q hq=>by
   rw[List.contains_cons,hM q (List.mem_cons_of_mem _ hq),Bool.or_false];exact beq_eq_false_iff_ne.2 (hdiff q hq)) l (by rw[hl,yl])]
end
section
variable {s w a r:LU}
def secsC (p:PairT):List LU:=(qad p.1 p.2.1).1
theorem qGQ:∀ (P:List PairT) (out:LU),(laysC P out).2=0→(∀ p∈P,(qad p.1 p.2.1).2=0)∧(laysC P out).1=out++textL (P.flatMap secsC)
 | [],out,_=>⟨fun _ h=>absurd h (by simp),by show out=out++[];rw[yG]⟩
 | p :: P,out,h=>by
  have e:laysC (p :: P) out=bif (qad p.1 p.2.1).2 != 0 then ([],(qad p.1 p.2.1).2) else laysC P (out++textL (qad p.1 p.2.1).1):=rfl
  rw[e] at h ⊢;cases hq:(qad p.1 p.2.1).2 != 0 with
  | true =>
   rw[hq] at h;simp only[yc] at h;rw[h] at hq;cases hq
  | false =>
   have h0:(qad p.1 p.2.1).2=0:=by
    unfold bne at hq;simpa using hq
   rw[hq] at h;simp only[yd] at h ⊢;obtain⟨h1,h2⟩:=qGQ P _ h;refine⟨fun q hq=>by
    rcases List.mem_cons.1 hq with rfl | hq
    ·exact h0
    ·exact h1 q hq,?_⟩
   rw[h2,List.flatMap_cons,yl];unfold textL secsC;rw[List.flatMap_append]
theorem qrI:∀ (P:List PairT) (out:LU),(laysC P out).2≠0→(laysC P out).1=[]
 | [],_,h=>absurd rfl h
 | p :: P,out,h=>by
  have e:laysC (p :: P) out=bif (qad p.1 p.2.1).2 != 0 then ([],(qad p.1 p.2.1).2) else laysC P (out++textL (qad p.1 p.2.1).1):=rfl
  rw[e] at h ⊢;cases hq:(qad p.1 p.2.1).2 != 0 with
  | true=>rfl
  | false =>
   rw[hq] at h;exact qrI P _ h
def readL (ps:List LU):List qc:=ps.flatMap fun p=>bif (z59 p).2==0 then [(z59 p).1] else []
theorem qyB {L:List LU} (h:∀ x∈L,Shut ([13,10,32]++x)):z39 (textL L)=readL (L.map ([13,10,32] ++ ·)):=by
 unfold z39 z58 readL;rw[qfB L h _ _ (Nat.lt_succ_self _),List.flatMap_cons,qAB];rfl
theorem qDR {x:LU} {L:List LU} (h:∀ y∈x :: L,Shut ([13,10,32]++y)):z39 (([13,10,32]++x)++textL L)=readL ((x :: L).map ([13,10,32] ++ ·)):=by
 unfold z39 z58;obtain⟨k,a1,a2⟩:=h x List.mem_cons_self ((([13,10,32]++x)++textL L).length+1) (textL L) (by rw[yn (as:=[13,10,32]++x)];omega);rw[a2,qfB L (fun y hy=>h y (List.mem_cons_of_mem _ hy)) k _ (by rw[yn (as:=[13,10,32]++x) (bs:=textL L)] at a1;omega)];rfl
theorem qpA {i:Nat} (h:i < s.length) (h1:(s.getD i 0==40)=false) (h2:blkB (s.getD i 0)=false):gapW s i=i:=by
 rw[qfx s i h,h1,h2];rfl
theorem qGR (s:LU):gapW s s.length=s.length:=by
 unfold gapW;rw[List.drop_length];rfl
theorem qGS (h:tokB w=true):w≠[]∧w.all tk=true:=by
 unfold tokB at h;simp only[yf,Bool.not_eq_true'] at h;exact⟨fun e=>by rw[e] at h;exact absurd h.1 (by decide),h.2⟩
theorem qmZ:tk 47=false∧tk 59=false∧blkB 47=false∧blkB 59=false:=by decide +kernel
theorem qDS (h:tokB w=true):∃ c r,w=c :: r∧(c==40)=false∧blkB c=false:=by
 obtain⟨h1,h2⟩:=qGS h;cases w with
 | nil=>exact absurd rfl h1
 | cons c r =>
  rw[List.all_cons,yf] at h2;obtain⟨k1,k2,k3,k4⟩:=qnM (qnL c h2.1);exact⟨c,r,rfl,k3,k1⟩
theorem qGT (hs:s=a++(w++r)) (h:tokB w=true) (hr:r.takeWhile tk=[]):gapW s a.length=a.length∧z36 s ((a.length:Nat):Int)=(w,(((a.length+w.length:Nat):Int),0)):=by
 obtain⟨c,w',hw,h1,h2⟩:=qDS h;obtain⟨k1,k2⟩:=qGS h;have hlen:s.length=a.length+(w.length+r.length):=by rw[hs,yn,yn]
 have hwl:w.length=w'.length+1:=by rw[hw];rfl
 have hg:s.getD a.length 0=c:=by rw[hs,hw];exact qjc _ _ _
 have ht:tokN s a.length=w:=by
  unfold tokN;rw[hs,List.drop_left' rfl];have:=qdZ tk w r k2;rw[hr,yG] at this;exact this
 refine⟨qpA (by omega) (by rw[hg];exact h1) (by rw[hg];exact h2),?_⟩;unfold z36 qF;rw[qat (by omega),beq_eq_false_iff_ne.2 (show a.length≠s.length by omega),ht,show w.isEmpty=false from by rw[hw];rfl];rfl
theorem qGU {c:UInt8} (hs:s=a++c :: r) (h1:(c==40)=false) (h2:blkB c=false):z24 s ((a.length:Nat):Int) c=(((a.length+1:Nat):Int),true):=by
 have hlen:s.length=a.length+(r.length+1):=by rw[hs,yn,yg]
 have hg:s.getD a.length 0=c:=by rw[hs];exact qjc _ _ _
 unfold z24;rw[qat (by omega),qpA (by omega) (by rw[hg];exact h1) (by rw[hg];exact h2),dT (show a.length < s.length by omega),hg,beq_self_eq_true];rfl
theorem qrJ {m b:LU} (hm:tokB m=true) (hb:tokB b=true) (hr:r.takeWhile tk=[]) :
 z23 (((m++[47])++b)++r)=((z37 m,(z37 b,([],()))),(((((m++[47])++b).length:Nat):Int),0))∧z22 (((m++[47])++b)++r) 0=0:=by
 obtain⟨f1,f2,f3,f4⟩:=qmZ;generalize hs:((m++[47])++b)++r=s;have e1:s=[]++(m++47 :: (b++r)):=by rw[← hs];simp
 have e2:s=m++47 :: (b++r):=by rw[← hs];simp
 have e3:s=(m++[47])++(b++r):=by rw[← hs];simp
 obtain⟨g1,t1⟩:=qGT e1 hm (by rw[List.takeWhile_cons,f1];rfl);have k1:=qGU e2 rfl f3;obtain⟨g2,t2⟩:=qGT e3 hb hr;have hl1:(m++[47]:LU).length=m.length+1:=by rw[yn];rfl
 have hl2:(m++[47]:LU).length≤s.length:=by rw[e3,yn (as:=m++[47])];exact Nat.le_add_right _ _
 have c0:qw s 0=0:=qat (k:=0) (Nat.zero_le _);have G0:z22 s 0=((([]:LU).length:Nat):Int):=by
  unfold z22;rw[c0];have:gapW s 0=0:=g1;rw[this];rfl
 have T1:tkA s=(m,(((m.length:Nat):Int),0)):=by
  unfold tkA;rw[G0,t1];simp only[List.length_nil,yE]
 have S1:tkS s=(((m.length+1:Nat):Int),true):=by
  unfold tkS;rw[T1];exact k1
 have T2:tkB s=(b,((((m++[47]).length+b.length:Nat):Int),0)):=by
  unfold tkB;rw[S1];unfold z22;rw[← hl1,qat hl2,g2,t2]
 refine⟨?_,by rw[G0];rfl⟩;unfold z23;rw[T1,S1,T2];rw[show (((m++[47])++b:LU).length)=(m++[47]:LU).length+b.length from yn];rfl
structure LaidG (t:CtT) (s:LU):Prop where
 ok:qqA s=true
 is:z12 s=((z37 t.1,(z37 t.2.1,(t.2.2.1.map (fun p=>(z37 p.1,(p.2.1,()))),()))),0)
theorem qDT (P:List PairT) (h:∀ p∈P,ok36 p.1 p.2.1=true):(textL (P.flatMap secsC)).length≤101404*P.length:=by
 induction P with
 | nil=>exact yv _
 | cons p P ih =>
  obtain⟨k1,k2⟩:=qlB (h p List.mem_cons_self);have k3:=qAx _ k2;have:=ih fun q hq=>h q (List.mem_cons_of_mem _ hq);have e:textL ((p :: P).flatMap secsC)=textL (qad p.1 p.2.1).1++textL (P.flatMap secsC):=by
   unfold textL;rw[List.flatMap_cons,List.flatMap_append];rfl
  rw[e,yn,yg];omega
theorem qDU {p:PairT} (h:BackG p.1 p.2.1 (z39 (textL (secsC p)))):secsC p≠[]:=fun e=>by
 rw[e] at h;have:=h.join;rw[show z39 (textL [])=[] from by decide +kernel] at this;cases this
theorem qDV (P:List PairT) (h:∀ p∈P,BackG p.1 p.2.1 (z39 (textL (secsC p)))∧∀ x∈secsC p,Shut ([13,10,32]++x)) :
 readL ((P.flatMap secsC).map ([13,10,32] ++ ·))=P.flatMap fun p=>z39 (textL (secsC p)):=by
 induction P with
 | nil=>rfl
 | cons p P ih =>
  have:=ih fun q hq=>h q (List.mem_cons_of_mem _ hq);rw[List.flatMap_cons,List.flatMap_cons,List.map_append,← this,qyB (h p List.mem_cons_self).2];unfold readL;rw[List.flatMap_append]
theorem qDW (t:CtT) (h1:tokB t.1=true) (h2:tokB t.2.1=true) (hl:t.1.length≤100∧t.2.1.length≤100) (h6:t.2.2.1.length≤6) (ho:∀ p∈t.2.2.1,ok36 p.1 p.2.1=true) (hi:∀ p∈t.2.2.1,i32s p.2.1=true)
 (h0:∀ p∈t.2.2.1,(qad p.1 p.2.1).2=0) (hN:(t.2.2.1.map fun p=>z37 p.1).Nodup):LaidG t (((t.1++[47])++t.2.1)++textL (t.2.2.1.flatMap secsC)):=by
 obtain⟨f1,f2,f3,f4⟩:=qmZ;have hB:∀ p∈t.2.2.1,BackG p.1 p.2.1 (z39 (textL (secsC p)))∧∀ x∈secsC p,Shut ([13,10,32]++x):=fun p hp=>qMP p.1 p.2.1 (ho p hp) (hi p hp) (h0 p hp);have hlen:=qDT t.2.2.1 ho;have hml:((t.1++[47])++t.2.1).length≤201:=by rw[yn,yn,List.length_singleton];omega
 have hpos:0 < ((t.1++[47])++t.2.1).length:=by rw[yn,yn,List.length_singleton];omega
 cases hP:t.2.2.1.flatMap secsC with
 | nil =>
  have hnil:t.2.2.1=[]:=by
   cases e:t.2.2.1 with
   | nil=>rfl
   | cons p P =>
    rw[e,List.flatMap_cons] at hP;exact absurd (List.append_eq_nil_iff.1 hP).1 (qDU (hB p (by rw[e];exact List.mem_cons_self)).1)
  rw[show textL []=[] from rfl];obtain⟨T,G⟩:=qrJ (r:=[]) h1 h2 rfl;rw[yG] at T G ⊢;generalize (t.1++[47])++t.2.1=s at *
  have hG:z22 s ((s.length:Nat):Int)=((s.length:Nat):Int):=by
   unfold z22;rw[qat (yv _),qGR]
  have hS:z24 s ((s.length:Nat):Int) 59=(((s.length:Nat):Int),false):=by
   unfold z24;rw[qat (yv _),qGR,dF (Nat.lt_irrefl _)];rfl
  constructor
  ·unfold qqA restC;rw[T,hS,tn,List.drop_length,qe (by omega)];decide +kernel
  ·unfold z12;rw[T,G,hG,beq_eq_false_iff_ne.2 (show (0:Int)≠((s.length:Nat):Int) by omega),beq_self_eq_true,hnil];rfl
 | cons x L =>
  rw[hP] at hlen;obtain⟨T,G⟩:=qrJ (r:=textL (x :: L)) h1 h2 (by rw[qlM,List.takeWhile_cons,f2];rfl);have hsh:∀ y∈x :: L,Shut ([13,10,32]++y):=fun y hy=>by
   rw[← hP] at hy;obtain⟨p,hp,hyp⟩:=List.mem_flatMap.1 hy;exact(hB p hp).2 y hyp
  have hrr:=qDR hsh;rw[← hP,qDV t.2.2.1 hB] at hrr;generalize ha:(t.1++[47])++t.2.1=a at *
  rw[qlM] at T G hlen ⊢;rw[yg] at hlen;generalize hR:([13,10,32]++x)++textL L=R at *
  generalize hs:a++59 :: R=s at *
  have hsl:s.length=a.length+(R.length+1):=by rw[← hs,yn,yg]
  have hg:s.getD a.length 0=59:=by rw[← hs];exact qjc _ _ _
  have hG:z22 s ((a.length:Nat):Int)=((a.length:Nat):Int):=by
   unfold z22;rw[qat (by omega),qpA (by omega) (by rw[hg];rfl) (by rw[hg];exact f4)]
  have hS:=qGU hs.symm (show ((59:UInt8)==40)=false from rfl) f4;have hrest:restC s=R:=by
   unfold restC;rw[T,hS,tn,← hs,← List.drop_drop,List.drop_left' rfl];rfl
  have hjoin:z25 R=t.2.2.1.map fun p=>(z37 p.1,(p.2.1,())):=by
   unfold z25 z38;rw[hrr];exact qjF _ t.2.2.1 (fun p hp=>qyA (hB p hp).1) hN [] [] (fun _ _ _ h=>absurd h (by simp)) (fun _ _=>rfl) _ rfl
  have hmem:∀ q∈z39 R,q.1.length≤1000∧(q.2.2.2.1.length≤1000∧(-1≤q.2.1∧q.2.1 < 1000)):=fun q hq=>by
   rw[hrr] at hq;obtain⟨p,hp,hqp⟩:=List.mem_flatMap.1 hq;obtain⟨j1,j2⟩:=(hB p hp).1.names q hqp;obtain⟨k1,_⟩:=qnG (ho p hp);have hf:(z37 p.1).length=p.1.length:=by unfold z37;rw[yP]
   exact⟨by rw[j1,hf];omega,(hB p hp).1.vals q hqp,j2⟩
  have hcount:(z39 R).length≤101*t.2.2.1.length:=by
   rw[hrr];have:∀ P:List PairT,(∀ p∈P,(z39 (textL (secsC p))).length≤101)→(P.flatMap fun p=>z39 (textL (secsC p))).length≤101*P.length:=fun P=>by
    induction P with
    | nil=>intro _;exact yv _
    | cons p P ih =>
     intro h;have h1:=h p List.mem_cons_self;have h2:=ih fun q hq=>h q (List.mem_cons_of_mem _ hq);rw[List.flatMap_cons,yn,yg];omega
   exact this t.2.2.1 fun p hp=>(hB p hp).1.len
  constructor
  ·unfold qqA;rw[hrest,qe (by omega)];unfold quW qqC psOk;rw[qe (by omega),dT (show (z39 R).length≤1048576 by omega),dT (show (z39 R).length≤10000 by omega),List.all_eq_true.2 fun q hq=>?_,List.all_eq_true.2 fun q hq=>?_]
   ·rfl
   ·exact dT (hmem q hq).2.1
   ·obtain⟨j1,j2,j3⟩:=hmem q hq;rw[qe (by omega),qe (by omega),dT j3];rfl
  ·unfold z12;rw[T,G,hG,hS,hrest,hjoin,beq_eq_false_iff_ne.2 (show (0:Int)≠((s.length:Nat):Int) by omega),beq_eq_false_iff_ne.2 (show ((a.length:Nat):Int)≠((s.length:Nat):Int) by omega)];rfl
end
section
theorem qGV (R:OA) (ret:Bool→OA) (k2:CtT→LU→CtT→PairT→List PairT→Int→Int→OA) (t:CtT) (s:LU) (w:CtT) (p:PairT) (P:List PairT) (L:Int) (i:Nat) (hi:i≤t.2.2.1.length) (hl:t.2.2.1.length≤6)
 (hp:p.1.length≤1000∧∀ q∈t.2.2.1,q.1.length≤1000) (hr:ret z6=R) (hk:(∀ j,j < i→z37 (t.2.2.1.getD j dP).1≠z37 p.1)→k2 t s w p P L (i:Int)=R) :
 ∀ (d k n:Nat),k+d=i→d < n→(∀ j,j < k→z37 (t.2.2.1.getD j dP).1≠z37 p.1)→qnw ret k2 n t s w p P L (i:Int) (i:Int) (k:Int)=R
 | d,k,0,_,h,_=>absurd h (by omega)
 | 0,k,n+1,hki,_,hd=>by
  show qgz ret k2 (qnw ret k2 n) n t s w p P L (i:Int) (i:Int) (k:Int)=R;unfold qgz qaG;rw[dF (by omega)];have e:k=i:=by omega
  subst e;exact hk hd
 | d+1,k,n+1,hki,hn,hd=>by
  show qgz ret k2 (qnw ret k2 n) n t s w p P L (i:Int) (i:Int) (k:Int)=R;unfold qgz qaG;have hkl:k < t.2.2.1.length:=by omega
  have hmem:t.2.2.1.getD k dP∈t.2.2.1:=by
   rw[yY,yO hkl];exact List.getElem_mem hkl
  have h1:=hp.2 _ hmem;have hf:∀ x:LU,(z37 x).length=x.length:=fun x=>by unfold z37;rw[yP]
  rw[dT (show ((k:Nat):Int) < ((i:Nat):Int) by omega),dT (show (0:Int)≤((k:Nat):Int) by omega),dT (show ((k:Nat):Int) < ((t.2.2.1.length:Nat):Int) by omega),tn,qeL,wrC (by omega),
   show z8_ok (t.2.2.1.getD k dP).1=true from qe (by omega),show z8_ok p.1=true from qe (by omega),show z7_ok (z8 (t.2.2.1.getD k dP).1) (z8 p.1)=true from qe (by
    show (z37 (t.2.2.1.getD k dP).1).length≤_;rw[hf];omega),
   show z7 (z8 (t.2.2.1.getD k dP).1) (z8 p.1)=decide (z37 (t.2.2.1.getD k dP).1=z37 p.1) from rfl]
  simp only[yc,yi]
  by_cases e:z37 (t.2.2.1.getD k dP).1=z37 p.1
  ·rw[dT e];exact hr
  ·rw[dF e,show ((k:Nat):Int)+1=((k+1:Nat):Int) by omega];exact qGV R ret k2 t s w p P L i hi hl hp hr hk d (k+1) n (by omega) (by omega) fun j hj=>by
    rcases Nat.lt_succ_iff_lt_or_eq.1 hj with h | rfl
    ·exact hd j h
    ·exact e
theorem qyC (R:OA) (ret:Bool→OA) (k0:LU→CtT→OA) (t:CtT) (s:LU) (a b:LU) (hl:t.2.2.1.length≤6) (hp:∀ q∈t.2.2.1,q.1.length≤1000) (hr:ret z6=R)
 (hk:(∀ j k,j < k→k < t.2.2.1.length→z37 (t.2.2.1.getD j dP).1≠z37 (t.2.2.1.getD k dP).1)→k0 s (a,(b,(t.2.2.1.map (fun p=>(z37 p.1,(p.2.1,()))),())))=R) :
 ∀ (d i n:Nat),i+d=t.2.2.1.length→d+7 < n→(∀ j k,j < k→k < i→z37 (t.2.2.1.getD j dP).1≠z37 (t.2.2.1.getD k dP).1) →
 z4_l8 ret k0 n t s (a,(b,((t.2.2.1.take i).map (fun p=>(z37 p.1,(p.2.1,()))),()))) t.2.2.1 ((t.2.2.1.length:Nat):Int) (i:Int)=R
 | d,i,0,_,h,_=>absurd h (by omega)
 | 0,i,n+1,hi,_,hd=>by
  show qiW ret k0 (z4_l8 ret k0 n) n t s _ t.2.2.1 ((t.2.2.1.length:Nat):Int) (i:Int)=R;unfold qiW;rw[dF (by omega),List.take_of_length_le (by omega)];have e:i=t.2.2.1.length:=by omega
  rw[e] at hd;exact hk hd
 | d+1,i,n+1,hi,hn,hd=>by
  show qiW ret k0 (z4_l8 ret k0 n) n t s _ t.2.2.1 ((t.2.2.1.length:Nat):Int) (i:Int)=R;unfold qiW;have hit:i < t.2.2.1.length:=by omega
  have hmem:t.2.2.1.getD i dP∈t.2.2.1:=by
   rw[yY,yO hit];exact List.getElem_mem hit
  rw[dT (show ((i:Nat):Int) < ((t.2.2.1.length:Nat):Int) by omega),dT (show (0:Int)≤((i:Nat):Int) by omega),tn];simp only[yc,yi];refine qGV R ret _ t s _ (t.2.2.1.getD i dP) t.2.2.1 _ i (by omega) hl ⟨hp _ hmem,hp⟩ hr (fun hne=>?_) i 0 n (by omega) (by omega) (fun j hj=>absurd hj (by omega));unfold qqb qbf;have htk:(t.2.2.1.take (i+1)).map (fun p=>(z37 p.1,(p.2.1,())))=(t.2.2.1.take i).map (fun p=>(z37 p.1,(p.2.1,())))++[(z8 (t.2.2.1.getD i dP).1,((t.2.2.1.getD i dP).2.1,()))]:=by
   rw[List.take_add_one,yO hit,List.map_append,show t.2.2.1.getD i dP=t.2.2.1[i] from by rw[yY,yO hit];rfl];rfl
  have hmx:=hp _ hmem;rw[qeL,qeL,show z8_ok (t.2.2.1.getD i dP).1=true from qe (by omega),wrC (by omega)];dsimp only;rw[← htk,dT (show ((t.2.2.1.take i).map (fun p=>((z37 p.1,(p.2.1,())):PairT))).length+([(z8 (t.2.2.1.getD i dP).1,((t.2.2.1.getD i dP).2.1,()))]:List PairT).length≤room by
   rw[yP,yz,List.length_singleton];show _≤1073741824;omega),show ((i:Nat):Int)+1=((i+1:Nat):Int) by omega]
  refine qyC R ret k0 t s a b hl hp hr hk d (i+1) n (by omega) (by omega) fun j k hj hk'=>?_;rcases Nat.lt_succ_iff_lt_or_eq.1 hk' with h | rfl
  ·exact hd j k hj h
  ·exact hne j hj
theorem qna:∀ P:List PairT,sameP P P=true
 | []=>rfl
 | p :: P=>by
  show ((decide (p.1=p.1)&&decide (p.2.1=p.2.1))&&sameP P P)=true;rw[dT rfl,dT rfl,qna P];rfl
theorem qPU {t:CtT} (h:z5 t=false):t.2.2.1.length≤6∧(t.1.length≤100∧t.2.1.length≤100)∧∀ p∈t.2.2.1,ok36 p.1 p.2.1=true:=by
 unfold z5 at h;simp only[Bool.or_eq_false_iff,decide_eq_false_iff_not] at h;obtain⟨h0,h6,h1,h2⟩:=h;rw[List.take_of_length_le (by omega)] at h0;refine⟨by omega,⟨by omega,by omega⟩,fun p hp=>?_⟩;have:=List.any_eq_false.1 h0 p hp;unfold farP at this;rw[Bool.not_eq_true,Bool.or_eq_false_iff,decide_eq_false_iff_not,decide_eq_false_iff_not] at this;unfold ok36;rw[dT (by omega),dT (by omega)];rfl
theorem qPV:∀ (t0:LU×(LU×((List (LU×(LI×Unit)))×Unit))),(z4_ok t0=true)→∃ n,z4_sh n t0=qga (z4 t0):=fun t h=>⟨20,by
 unfold z4_sh qgA;cases hf:z5 t with
 | true=>rfl
 | false =>
  obtain⟨h6,hl,ho⟩:=qPU hf;have hi:∀ p∈t.2.2.1,i32s p.2.1=true:=fun p hp=>List.all_eq_true.1 h p hp;have hok:quJ t=true:=by
   unfold quJ;rw[dT hl.1,dT hl.2,dT h6,List.all_eq_true.2 ho];rfl
  have hnl:∀ q∈t.2.2.1,q.1.length≤1000∧q.2.1.length≤1000:=fun q hq=>by
   have:=qnG (ho q hq);omega
  rw[show qFT t=true from qe (by omega),show z10 t=t from rfl,hok];simp only[yc,yd,yi];cases he:(z11 t).2 != 0 with
  | true =>
   have:(z11 t).1=[]:=by
    unfold z11 at he ⊢;cases hb:tokB t.1&&tokB t.2.1 with
    | false=>rfl
    | true =>
     rw[hb] at he;exact qrI _ _ (by simpa using he)
   rw[this];rfl
  | false =>
   have h0:(z11 t).2=0:=by
    unfold bne at he;simpa using he
   simp only[yd,qeL];rw[show z8_ok t.1=true from qe (by omega),show z8_ok t.2.1=true from qe (by omega)];simp only[yc];have:=qyC (qga (z4 t)) qga (qiX 20) t (z11 t).1 (z37 t.1) (z37 t.2.1) h6 (fun q hq=>(hnl q hq).1) rfl (fun hd=>?_) t.2.2.1.length 0 20 (by omega) (by omega) (fun j k _ h=>absurd h (by omega))
   ·exact this
   ·have hN:(t.2.2.1.map fun p=>z37 p.1).Nodup:=by
     unfold List.Nodup;rw[List.pairwise_iff_getElem];intro i j hi' hj' hij;rw[yP] at hi' hj';have:=hd i j hij hj';rw[yY,yY,yO hi',yO hj'] at this;rw[List.getElem_map,List.getElem_map];exact this
    unfold z11 at h0 ⊢;cases hb:tokB t.1&&tokB t.2.1 with
    | false=>rw[hb] at h0;cases h0
    | true =>
     rw[hb] at h0;simp only[yc] at h0 ⊢;rw[yf] at hb;obtain⟨q1,q2⟩:=qGQ _ _ h0;obtain⟨g1,g2⟩:=qDW t hb.1 hb.2 hl h6 ho hi q1 hN;rw[q2];unfold qiX;rw[g1,g2];have hfl:∀ x:LU,(z37 x).length=x.length:=fun x=>by unfold z37;rw[yP]
     have hso:∀ y,quK (z37 t.1,(z37 t.2.1,(t.2.2.1.map (fun p=>(z37 p.1,(p.2.1,()))),()))) y=true:=fun y=>by
      unfold quK qnY;rw[qe (by rw[hfl];omega),qe (by rw[hfl];omega),dT (by rw[yP];omega),List.all_eq_true.2 fun q hq=>?_]
      ·rfl
      ·obtain⟨p,hp,rfl⟩:=List.mem_map.1 hq;have:=hnl p hp;rw[qe (by rw[hfl];omega),qe (show p.2.1.length≤1048576 by omega)];rfl
     have hsame:z13 (z37 t.1,(z37 t.2.1,(t.2.2.1.map (fun p=>(z37 p.1,(p.2.1,()))),()))) (z37 t.1,(z37 t.2.1,(t.2.2.1.map (fun p=>(z37 p.1,(p.2.1,()))),())))=true:=by
      unfold z13;rw[dT rfl,dT rfl,qna];rfl
     rw[hso,hsame];rfl⟩
end
end Go.Av
