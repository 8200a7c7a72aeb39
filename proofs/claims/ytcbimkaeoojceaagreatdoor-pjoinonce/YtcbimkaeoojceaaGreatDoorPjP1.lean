import Derived.Test.YtcbimkaeoojceaaGreatDoorPjT
namespace Go.Av
set_option linter.unusedSimpArgs false
set_option linter.unusedVariables false
theorem qev (s:List UInt8) (i:Int):qy s i≤s.length:=Nat.min_le_right ..
theorem qEw (s:List UInt8) (i:Nat) (h:s.length≤i):tokN s i=[]:=by
 unfold tokN;rw [yA h]; rfl
theorem qGF (s:List UInt8) (i:Nat) (h:i < s.length):tokN s i=bif z77 (s.getD i 0) 64 then s.getD i 0 :: tokN s (i+1) else []:=by
 unfold tokN;rw [qz (d:=0) h,List.takeWhile_cons];cases z77 (s.getD i 0) 64 <;> simp
theorem qAn (s:List UInt8) (i:Nat) (h:i≤s.length):i+(tokN s i).length≤s.length:=by
 unfold tokN;have h1:((s.drop i).takeWhile fun c=>z77 c 64).length≤(s.drop i).length:=(List.takeWhile_prefix _).length_le;rw [yK] at h1;omega
theorem qAo (s:List UInt8) (i:Nat) (h:i≤s.length):(s.take (i+(tokN s i).length)).drop i=tokN s i:=by
 rw [List.drop_take,Nat.add_sub_cancel_left];unfold tokN;exact (List.prefix_iff_eq_take.1 (List.takeWhile_prefix _)).symm
theorem qhB (a b:Nat):(((a:Nat):Int)==((b:Nat):Int))=(a==b):=by
 by_cases h:a=b
 ·subst h; simp
 ·rw [beq_eq_false_iff_ne.2 h,beq_eq_false_iff_ne.2 (by omega)]
theorem qgL:unqG []=none:=by unfold unqG; rfl
theorem qkJ (c:UInt8):unqG [c]=bif c==34 then some ([],1) else none:=by unfold unqG; rfl
theorem qop (c d:UInt8) (r:List UInt8):unqG (c :: d :: r)=bif c==34 then some ([],1) else bif c==92 then (unqG r).map fun x=>(d :: x.1,x.2+2) else (unqG (d :: r)).map fun x=>(c :: x.1,x.2+1):=by
 conv=>lhs; unfold unqG
theorem qoq (r:List UInt8):unqG (34 :: r)=some ([],1):=by
 cases r with
 | nil=>rw [qkJ]; rfl
 | cons d r=>rw [qop]; rfl
theorem qyx (d:UInt8) (r:List UInt8):unqG (92 :: d :: r)=(unqG r).map fun x=>(d :: x.1,x.2+2):=by rw [qop]; rfl
theorem qor (c:UInt8) (r:List UInt8) (h1:(c==34)=false) (h2:(c==92)=false):unqG (c :: r)=(unqG r).map fun x=>(c :: x.1,x.2+1):=by
 cases r with
 | nil=>rw [qkJ,h1,qgL]; rfl
 | cons d r=>rw [qop,h1,h2]; rfl
theorem qmc (s:List UInt8):s.take (Int.toNat ((s.length:Nat):Int))=s:=by rw [tn,List.take_length]
theorem qfD:∀ (m:Nat) (s:List UInt8),s.length≤m→∀ x,unqG s=some x→x.2≤s.length∧0 < x.2
 | 0,[],_,x,h=>by rw [qgL] at h; cases h
 | m+1,[],_,x,h=>by rw [qgL] at h; cases h
 | m+1,c :: r,hm,x,h=>by
  simp only [yg] at hm ⊢
  by_cases e1:c=34
  ·subst e1;rw [qoq] at h;cases h;simp
  ·by_cases e2:c=92
   ·subst e2;cases r with
    | nil=>rw [qkJ] at h; cases h
    | cons d r =>
     rw [qyx] at h;cases e:unqG r with
     | none=>rw [e] at h; cases h
     | some y =>
      rw [e] at h;cases h;simp only [yg] at hm ⊢;have:=qfD m r (by omega) y e;omega
   ·rw [qor c r (beq_eq_false_iff_ne.2 e1) (beq_eq_false_iff_ne.2 e2)] at h;cases e:unqG r with
    | none=>rw [e] at h; cases h
    | some y =>
     rw [e] at h;cases h;have:=qfD m r (by omega) y e;simp only;omega
theorem qhC (s:List UInt8):0≤(qu s).2.1∧(qu s).2.1≤((s.length:Nat):Int):=by
 cases s with
 | nil=>exact ⟨Int.le_refl 0,Int.le_refl 0⟩
 | cons c r =>
  rw [show qu (c :: r)=bif c != 34 then ([],(0,3)) else unqR (unqG r) from rfl];cases c != 34 with
  | true=>simp only [yc,yg]; omega
  | false =>
   simp only [yd];cases e:unqG r with
   | none=>simp only [unqR,yg]; omega
   | some x =>
    have:=qfD r.length r (yv _) x e;simp only [unqR,yg];omega
theorem qbV {α:Type} {l:List α} {i:Nat} {d:α} (h:i < l.length):l.getD i d=l[i]:=by simp [List.getD,h]
theorem qAp:∀ (s0:List UInt8) (at1:Int),∃ n,qBq n s0 at1=qum (z76 s0 at1):=fun s i=>⟨0,by
 unfold qBq z76 qy
 by_cases h:(0:Int) > i
 ·rw [dT h,yc,dF (by omega)];show qum 0=_;have:i.toNat=0:=by omega
  rw [this]; simp
 ·rw [dF h,yd]
  by_cases h2:((s.length:Nat):Int) < i
  ·rw [dT h2,yc]; congr 1; omega
  ·rw [dF h2,yd]; congr 1; omega⟩
theorem qdP {x:Int} (h : -1000000001≤x∧x≤1000000001):IntKind.wrap .i64 x=x:=IntWalk.i64_in _ (by omega)
theorem qGG (a b:Int):(bif decide (b > a) then b else a)=max a b:=by
 by_cases h:b > a
 ·rw [dT h,yc]; omega
 ·rw [dF h,yd]; omega
theorem qxt:∀ (k0:Int×(Int×(Bool×Unit))) (c1:UInt8),(qol k0 c1=true)→∃ n,qun n k0 c1=qeE (z100 k0 c1).1 (z100 k0 c1).2:=fun k c h=>⟨0,by
 have h:=of_decide_eq_true h;obtain ⟨d,m,t,u⟩:=k;simp only at h;unfold qun qbg z100 takeK;simp only [qGG];rw [qdP (by omega : -1000000001≤d+1∧d+1≤1000000001),qdP (by omega : -1000000001≤d - 1∧d - 1≤1000000001)];cases t with
 | true=>rfl
 | false =>
  simp only [yd];cases c==92 with
  | true=>rfl
  | false =>
   cases c==40 with
   | true=>rfl
   | false=>cases c==41 <;> rfl⟩
theorem qtm (k:CommT) (c:UInt8):k.1 - 1≤(takeK k c).2.1∧(takeK k c).2.1≤k.1+1:=by
 unfold takeK;cases k.2.2.1 with
 | true=>simp only [yc]; omega
 | false =>
  cases c==92 with
  | true=>simp only [yc,yd]; omega
  | false =>
   cases c==40 with
   | true=>simp only [yc,yd]; omega
   | false=>cases c==41 <;> simp only [yc,yd] <;> omega
theorem qiT:∀ (l:List UInt8) (k:CommT),(overF k l).1≤l.length
 | [],k=>yv _
 | c :: r,k=>by
  have:=qiT r (takeK k c).2;unfold overF;cases (takeK k c).1 with
  | true=>simp
  | false=>simp only [yd,yg]; omega
theorem qos (ret:Int→Int→Option AV) (s s0:List UInt8) (hl:s.length≤1048576) (k0:List UInt8→CommT→Option AV):∀ (d i n:Nat) (k:CommT),i+d=s.length→d < n→(-(i:Int)≤k.1∧k.1≤i) →
 (∀ k',k0 s0 k'=ret ((s.length:Nat):Int) k'.2.1) →
 qmp ret k0 n s0 k s ((s.length:Nat):Int) (i:Int)=ret ((i+(overF k (s.drop i)).1:Nat):Int) (overF k (s.drop i)).2.2.1
 | d,i,0,k,hi,hn,_,_=>by omega
 | 0,i,n+1,k,hi,hn,_,hk0=>by
  show qeF _ _ _ n _ _ _ _ _=_;unfold qeF;rw [dF (by omega),yA (by omega),yd,hk0];show ret _ _=ret ((i+0:Nat):Int) k.2.1;rw [show i+0=s.length by omega]
 | d+1,i,n+1,k,hi,hn,hb,hk0=>by
  show qeF _ _ _ n _ _ _ _ _=_;unfold qeF;have hlt:i < s.length:=by omega
  have htk:=qtm k (s.getD i 0);have ih:=qos ret s s0 hl k0 d (i+1) n (takeK k (s.getD i 0)).2 (by omega) (by omega) (by omega) hk0;rw [qz (d:=(0:UInt8)) hlt];have hok:qol k (s.getD i 0)=true:=dT (by omega);simp (disch:=omega) only [dT,yc,yi,y4,tn,qv,hok];rw [show z100 k (s.getD i 0)=takeK k (s.getD i 0) from rfl];unfold overF;cases (takeK k (s.getD i 0)).1 with
  | true=>rfl
  | false =>
   simp only [yd];rw [ih];congr 1;omega
theorem qAq:∀ (s0:List UInt8),(qxi s0=true)→∃ n,qBr n s0=qkR (z78 s0).1 (z78 s0).2:=fun s h=>⟨s.length+1,by
 have hl:=qm h;have:=qos qkR s s hl (qgY (s.length+1)) s.length 0 (s.length+1) (0,(0,(false,()))) (by omega) (by omega) (by simp) (fun _=>rfl);rw [yw,yE] at this;exact this⟩
theorem qfE (c:UInt8) (r:List UInt8):1≤(overC (c :: r)).1:=by
 unfold overC overF;cases (takeK (0,(0,(false,()))) c).1 <;> simp
theorem qtn:∀ (n:Nat) (s:List UInt8),gapL n s≤s.length
 | 0,s=>Nat.zero_le _
 | n+1,[]=>Nat.zero_le _
 | n+1,c :: r=>by
  have h1:=qiT (c :: r) (0,(0,(false,())));have h2:=qtn n ((c :: r).drop (overC (c :: r)).1);have h3:=qtn n r;unfold gapL;rw [yK] at h2;unfold overC at *
  cases c==40 with
  | true=>simp only [yc]; omega
  | false =>
   cases blkB c with
   | true=>simp only [yc,yd,yg]; omega
   | false=>simp
theorem qiU:∀ (n m:Nat) (s:List UInt8),s.length < n→s.length < m→gapL n s=gapL m s
 | n+1,m+1,[],_,_=>rfl
 | n+1,m+1,c :: r,hn,hm=>by
  have h0:=qfE c r;rw [yg] at hn hm;unfold gapL;rw [qiU n m ((c :: r).drop (overC (c :: r)).1) (by rw [yK,yg]; omega) (by rw [yK,yg]; omega),qiU n m r (by omega) (by omega)]
theorem qAr (s:List UInt8) (i:Nat) (h:s.length≤i):gapW s i=i:=by
 unfold gapW;rw [yA h]; rfl
theorem qyy (s:List UInt8) (i:Nat) (h:i < s.length):gapW s i=bif s.getD i 0==40 then gapW s (i+(overC (s.drop i)).1) else bif blkB (s.getD i 0) then gapW s (i+1) else i:=by
 have hd:=qz (d:=(0:UInt8)) h;have hp:1≤(overC (s.drop i)).1:=by rw [hd]; exact qfE _ _
 have hlen:(s.drop (i+1)).length=s.length - (i+1):=yK;unfold gapW;rw [qiU (s.length+1) (s.length+2) (s.drop i) (by rw [yK]; omega) (by rw [yK]; omega)];rw [hd];rw [hd] at hp;show i+(bif s.getD i 0==40 then (overC (s.getD i 0 :: s.drop (i+1))).1+gapL (s.length+1) ((s.getD i 0 :: s.drop (i+1)).drop (overC (s.getD i 0 :: s.drop (i+1))).1) else bif blkB (s.getD i 0) then gapL (s.length+1) (s.drop (i+1))+1 else 0)=_;cases s.getD i 0==40 with
 | true =>
  simp only [yc];rw [← hd,List.drop_drop];omega
 | false =>
  cases blkB (s.getD i 0) with
  | true=>simp only [yc,yd]; omega
  | false=>simp
theorem qyz (s:List UInt8) (i:Nat) (h:i≤s.length):i≤gapW s i∧gapW s i≤s.length:=by
 unfold gapW;have h1:=qtn (s.length+1) (s.drop i);rw [yK] at h1;omega
theorem qiV (s:List UInt8) (hl:s.length≤1048576) (N:Nat):∀ (n i:Nat),i≤s.length→s.length - i < n →
 qmq qhK (qgZ N) n s (i:Int)=qhK (gapW s i:Nat)
 | 0,i,hi,hn=>by omega
 | n+1,i,hi,hn=>by
  show qjn _ _ _ n _ _=_;unfold qjn qaE
  by_cases hlt:i < s.length
  ·have hd:=qz (d:=(0:UInt8)) hlt;have hp:1≤(overC (s.drop i)).1:=by rw [hd]; exact qfE _ _
   have hle:(overC (s.drop i)).1≤s.length - i:=by have:=qiT (s.drop i) (0,(0,(false,()))); rw [yK] at this; exact this
   have ih:=qiV s hl N n (i+1) (by omega) (by omega);have ih2:=qiV s hl N n (i+(overC (s.drop i)).1) (by omega) (by omega);rw [qyy s i hlt];have hok:qxi (s.drop i)=true:=qn (by rw [yK]; omega);simp (disch:=omega) only [dT,yc,yi,y4,tn,qv,List.take_length,hok];cases e0:s.getD i 0==40 with
   | true =>
    simp only [yc];rw [show (z78 (s.drop i)).1=(((overC (s.drop i)).1:Nat):Int) from rfl,show (i:Int)+(((overC (s.drop i)).1:Nat):Int)=((i+(overC (s.drop i)).1:Nat):Int) from by omega,qdP (by omega),ih2]
   | false =>
    simp only [yd];rw [show blkB (s.getD i 0)=(z77 (s.getD i 0) 2||(s.getD i 0==13||s.getD i 0==10)) from rfl];cases e2:s.getD i 0==13 with
    | true=>simp only [yc,Bool.true_or,Bool.or_true]; exact ih
    | false =>
     cases e3:s.getD i 0==10 with
     | true=>simp only [yc,yd,Bool.or_true]; exact ih
     | false =>
      cases e1:z77 (s.getD i 0) 2 with
      | true=>simp only [yc,yd,Bool.true_or]; exact ih
      | false=>rfl
  ·rw [dF (by omega),qAr s i (by omega)];rfl
theorem qAs:∀ (s0:List UInt8) (at1:Int),(qgJ s0 at1=true)→∃ n,qBs n s0 at1=qhK (z54 s0 at1):=fun s i h=>⟨s.length+1,by
 have:=qev s i;exact qiV s (qm h) _ (s.length+1) (qy s i) this (by omega)⟩
theorem qhD (s:List UInt8) (hl:s.length≤1048576) (i0:Int) (k0:List UInt8→Int→Int→Option AV):∀ (d i n:Nat),i+d=s.length→d < n →
 qmr k0 n s i0 (i:Int)=k0 s i0 ((i+(tokN s i).length:Nat):Int)
 | d,i,0,hi,hn=>by omega
 | 0,i,n+1,hi,hn=>by
  show qeH _ _ n _ _ _=_;unfold qeH;rw [dF (by omega),qEw s i (by omega)];rfl
 | d+1,i,n+1,hi,hn=>by
  show qeH _ _ n _ _ _=_;unfold qeH;have hlt:i < s.length:=by omega
  have ih:=qhD s hl i0 k0 d (i+1) n (by omega) (by omega);rw [qGF s i hlt];simp (disch:=omega) only [dT,yc,yi,tn,qv];cases z77 (s.getD i 0) 64 with
  | true =>
   rw [yc,yc,ih,yg];congr 2; omega
  | false=>rfl
theorem qAt:∀ (s0:List UInt8) (at1:Int),(qlY s0 at1=true)→∃ n,qxH n s0 at1=qoM (z53 s0 at1).1 (z53 s0 at1).2.1 (z53 s0 at1).2.2:=fun s i h=>⟨s.length+1,by
 unfold qxH z53 qak z76;have hl:=qm h;have hc:=qev s i;have hk:=qAn s _ hc;rw [qhD s hl _ _ (s.length - qy s i) (qy s i) (s.length+1) (by omega) (by omega)];unfold qha;rw [qhB,qhB];cases qy s i==s.length with
 | true=>rfl
 | false =>
  rw [yd,yd];cases e:(tokN s (qy s i)).isEmpty with
  | true =>
   have:=List.isEmpty_iff.1 e;rw [this];simp
  | false =>
   have hp:0 < (tokN s (qy s i)).length:=by
    cases e2:tokN s (qy s i) with
    | nil=>rw [e2] at e; cases e
    | cons _ _=>exact Nat.zero_lt_succ _
   rw [beq_eq_false_iff_ne.2 (show qy s i+(tokN s (qy s i)).length≠qy s i by omega)];simp (disch:=omega) only [dT,yc,yd,yi,tn];rw [qAo s _ hc,show qbY (tokN s (qy s i))=true from qn (by omega)];rfl⟩
theorem qAu:∀ (s0:List UInt8) (at1:Int) (c2:UInt8),(qxj s0 at1 c2=true)→∃ n,qBv n s0 at1 c2=qoN (z55 s0 at1 c2).1 (z55 s0 at1 c2).2:=fun s i c h=>⟨0,by
 unfold qBv z55;have hl:s.length≤1048576:=qm h;have hc:=qev s i;have hg:=qyz s _ hc;rw [show qgJ s i=true from h];unfold z54 z76;rw [qhB]
 by_cases h1:gapW s (qy s i) < s.length
 ·rw [beq_eq_false_iff_ne.2 (by omega:gapW s (qy s i)≠s.length)];simp (disch:=omega) only [dT,yc,yd,yi,y4,tn,qv];unfold bne;cases s.getD (gapW s (qy s i)) 0==c <;> rfl
 ·rw [dF h1,beq_iff_eq.2 (by omega:gapW s (qy s i)=s.length)];rfl⟩
theorem qfF (ret:List UInt8→Int→Int→Option AV) (k0:Option AV) (s:List UInt8) (hl:s.length≤1048576):∀ (d i n:Nat) (out:List UInt8),i+d=s.length→d < n→out.length≤i →
 (qjo ret k0 n out false s ((s.length:Nat):Int) (i:Int)=match unqG (s.drop i) with | some x=>ret (out++x.1) ((i+x.2+1:Nat):Int) 0 | none=>k0)
 | d,i,0,out,hi,hn,_=>by omega
 | 0,i,n+1,out,hi,hn,_=>by
  show qaM _ _ _ n _ _ _ _ _=_;unfold qaM qT;rw [dF (by omega),yA (by omega),qgL];rfl
 | 1,i,n+1,out,hi,hn,ho=>by
  show qaM _ _ _ n _ _ _ _ _=_;unfold qaM qT;have hlt:i < s.length:=by omega
  rw [qz (d:=(0:UInt8)) hlt];have hr1:out.length+([s.getD i 0]:List UInt8).length≤room:=by unfold room; simp; omega
  have ih:=qfF ret k0 s hl 0 (i+1) n (out++[s.getD i 0]) (by omega) (by omega) (by rw [yn]; simp; omega);rw [yA (by omega:s.length≤i+1),qgL] at ih;simp (disch:=omega) only [dT,yc,yd,yi,tn,qv];rw [yA (by omega:s.length≤i+1),qkJ];cases s.getD i 0==34 with
  | true =>
   rw [show (i:Int)+2=((i+2:Nat):Int) from by omega,qdP (by omega)];show _=ret (out++[]) _ 0;rw [yG];rfl
  | false =>
   simp only [yd];cases e2:s.getD i 0==92 with
   | true =>
    obtain ⟨m,rfl⟩:∃ m,n=m+1:=⟨n - 1,by omega⟩;show qaM _ _ _ m _ _ _ _ _=_;unfold qaM qT;rw [dF (by omega)];rfl
   | false =>
    simp only [yd];rw [ih]
 | d+2,i,n+1,out,hi,hn,ho=>by
  show qaM _ _ _ n _ _ _ _ _=_;unfold qaM qT;have hlt:i < s.length:=by omega
  have hlt':i+1 < s.length:=by omega
  obtain ⟨m,rfl⟩:∃ m,n=m+1:=⟨n - 1,by omega⟩;have ih:=qfF ret k0 s hl (d+1) (i+1) (m+1) (out++[s.getD i 0]) (by omega) (by omega) (by rw [yn]; simp; omega);have ih2:=qfF ret k0 s hl d (i+2) m (out++[s.getD (i+1) 0]) (by omega) (by omega) (by rw [yn]; simp; omega);have hd:=qz (d:=(0:UInt8)) hlt';rw [qz (d:=(0:UInt8)) hlt];have hr1:out.length+([s.getD i 0]:List UInt8).length≤room:=by unfold room; simp; omega
  have hr2:out.length+([s.getD (i+1) 0]:List UInt8).length≤room:=by unfold room; simp; omega
  simp (disch:=omega) only [dT,yc,yd,yi,tn,qv];cases e1:s.getD i 0==34 with
  | true =>
   rw [eq_of_beq e1,qoq,show (i:Int)+2=((i+2:Nat):Int) from by omega,qdP (by omega)];show _=ret (out++[]) _ 0;rw [yG];rfl
  | false =>
   cases e2:s.getD i 0==92 with
   | true =>
    rw [hd,eq_of_beq e2,qyx];simp only [yd,yc];show qaM _ _ _ m _ _ _ _ _=_;unfold qaM qT;simp (disch:=omega) only [dT,yc,yd,yi,tn,qv];rw [show qjo ret k0 m (out++[s.getD (i+1) 0]) false s ((s.length:Nat):Int) ((i+1+1:Nat):Int)=_ from ih2];cases unqG (s.drop (i+2)) with
    | none=>rfl
    | some x=>simp only [yU,yl,List.singleton_append]; congr 2; omega
   | false =>
    rw [qor _ _ e1 e2];simp only [yd];rw [ih];cases unqG (s.drop (i+1)) with
    | none=>rfl
    | some x=>simp only [yU,yl,List.singleton_append]; congr 2; omega
theorem qAv:∀ (s0:List UInt8),(qqg s0=true)→∃ n,qxG n s0=qfd (z75 s0).1 (z75 s0).2.1 (z75 s0).2.2:=fun s h=>⟨s.length+1,by
 unfold qxG;have hl:=qm h;cases s with
 | nil=>rfl
 | cons c r =>
  rw [yg] at hl;rw [show ((((c :: r).length:Nat):Int)==0)=false from by rw [beq_eq_false_iff_ne]; simp only [yg]; omega];rw [dT (show (0:Int) < (((c :: r).length:Nat):Int) by simp only [yg]; omega),dT (show (1:Int)≤(((c :: r).length:Nat):Int) by simp only [yg]; omega)];simp only [yd,yc,yi,dT (show (0:Int)≤0 by omega),dT (show (0:Int)≤1 by omega),dT (Int.le_refl _)];show (bif c != 34 then _ else _)=_;rw [show z75 (c :: r)=bif c != 34 then ([],(0,3)) else unqR (unqG r) from rfl];cases c != 34 with
  | true=>rfl
  | false =>
   simp only [yd];rw [qmc,show Int.toNat 1=1 from rfl,List.drop_one,List.tail_cons];have:=qfF qfd (qeG ((c :: r).length+1)) r (by omega) r.length 0 ((c :: r).length+1) [] (by omega) (by simp only [yg]; omega) (by simp);rw [show qjo qfd (qeG ((c :: r).length+1)) ((c :: r).length+1) [] false r ((r.length:Nat):Int) 0=_ from this,yw];cases unqG r with
   | none=>rfl
   | some x=>simp only [unqR,List.nil_append,yE]⟩
theorem qAw:∀ (s0:List UInt8) (at1:Int),(qxk s0 at1=true)→∃ n,qBw n s0 at1=qkU (z56 s0 at1).1 (z56 s0 at1).2.1 (z56 s0 at1).2.2:=fun s i h=>⟨0,by
 unfold qBw qcM z56 qaF z76;have hl:=qm h;have hc:=qev s i;rw [qmc,qhB,show ∀ j,qlY s j=true from fun _=>h];have hcc:qak s ((qy s i:Nat):Int)=qak s i:=by
  unfold qak;rw [show qy s ((qy s i:Nat):Int)=qy s i from by unfold qy; omega]
 unfold z53;rw [hcc];cases e:qy s i==s.length with
 | true=>rfl
 | false =>
  have hne:qy s i≠s.length:=beq_eq_false_iff_ne.1 e;have hu:=qhC (s.drop (qy s i));rw [yK] at hu;simp (disch:=omega) only [dT,yc,yd,yi,Bool.false_or,tn];cases s.getD (qy s i) 0 != 34 with
  | true=>rfl
  | false =>
   simp only [yd];rw [show qqg (s.drop (qy s i))=true from qn (by rw [yK]; omega)];simp only [yi,yc];unfold z75;cases (qu (s.drop (qy s i))).2.2 != 0 with
   | true=>rfl
   | false =>
    simp only [yd];rw [IntWalk.i64_in _ (by omega)]⟩
end Go.Av
