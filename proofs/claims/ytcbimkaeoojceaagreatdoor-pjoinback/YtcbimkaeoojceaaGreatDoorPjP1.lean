import Derived.Test.YtcbimkaeoojceaaGreatDoorPjT
namespace Go.Av
set_option linter.unusedSimpArgs false
set_option linter.unusedVariables false
theorem qfL (s:LU) (i:Int):qF s i≤s.length:=Nat.min_le_right ..
theorem qOp (s:LU) (i:Nat) (h:s.length≤i):tokN s i=[]:=by
 unfold tokN;rw [yA h]; rfl
theorem qRB (s:LU) (i:Nat) (h:i < s.length):tokN s i=bif z77 (s.getD i 0) 64 then s.getD i 0 :: tokN s (i+1) else []:=by
 unfold tokN;rw [qy (d:=0) h,List.takeWhile_cons];cases z77 (s.getD i 0) 64 <;> simp
theorem qIt (s:LU) (i:Nat) (h:i≤s.length):i+(tokN s i).length≤s.length:=by
 unfold tokN;have h1:((s.drop i).takeWhile fun c=>z77 c 64).length≤(s.drop i).length:=(List.takeWhile_prefix _).length_le;rw [yK] at h1;omega
theorem qIu (s:LU) (i:Nat) (h:i≤s.length):(s.take (i+(tokN s i).length)).drop i=tokN s i:=by
 rw [List.drop_take,Nat.add_sub_cancel_left];unfold tokN;exact (List.prefix_iff_eq_take.1 (List.takeWhile_prefix _)).symm
theorem qjG (a b:Nat):(((a:Nat):Int)==((b:Nat):Int))=(a==b):=by
 by_cases h:a=b
 ·subst h; simp
 ·rw [beq_eq_false_iff_ne.2 h,beq_eq_false_iff_ne.2 (by omega)]
theorem qnw:unqG []=none:=by unfold unqG; rfl
theorem qsu (c:UInt8):unqG [c]=bif c==34 then some ([],1) else none:=by unfold unqG; rfl
theorem qyL (c d:UInt8) (r:LU):unqG (c :: d :: r)=bif c==34 then some ([],1) else bif c==92 then (unqG r).map fun x=>(d :: x.1,x.2+2) else (unqG (d :: r)).map fun x=>(c :: x.1,x.2+1):=by
 conv=>lhs; unfold unqG
theorem qlm (r:LU):unqG (34 :: r)=some ([],1):=by
 cases r with
 | nil=>rw [qsu]; rfl
 | cons d r=>rw [qyL]; rfl
theorem qsv (d:UInt8) (r:LU):unqG (92 :: d :: r)=(unqG r).map fun x=>(d :: x.1,x.2+2):=by rw [qyL]; rfl
theorem qln (c:UInt8) (r:LU) (h1:(c==34)=false) (h2:(c==92)=false):unqG (c :: r)=(unqG r).map fun x=>(c :: x.1,x.2+1):=by
 cases r with
 | nil=>rw [qsu,h1,qnw]; rfl
 | cons d r=>rw [qyL,h1,h2]; rfl
theorem qpm (s:LU):s.take (Int.toNat ((s.length:Nat):Int))=s:=by rw [tn,List.take_length]
theorem qho:∀ (m:Nat) (s:LU),s.length≤m→∀ x,unqG s=some x→x.2≤s.length∧0 < x.2
 | 0,[],_,x,h=>by rw [qnw] at h; cases h
 | m+1,[],_,x,h=>by rw [qnw] at h; cases h
 | m+1,c :: r,hm,x,h=>by
  simp only [yg] at hm ⊢
  by_cases e1:c=34
  ·subst e1;rw [qlm] at h;cases h;simp
  ·by_cases e2:c=92
   ·subst e2;cases r with
    | nil=>rw [qsu] at h; cases h
    | cons d r =>
     rw [qsv] at h;cases e:unqG r with
     | none=>rw [e] at h; cases h
     | some y =>
      rw [e] at h;cases h;simp only [yg] at hm ⊢;have:=qho m r (by omega) y e;omega
   ·rw [qln c r (beq_eq_false_iff_ne.2 e1) (beq_eq_false_iff_ne.2 e2)] at h;cases e:unqG r with
    | none=>rw [e] at h; cases h
    | some y =>
     rw [e] at h;cases h;have:=qho m r (by omega) y e;simp only;omega
theorem qjH (s:LU):0≤(qJ s).2.1∧(qJ s).2.1≤((s.length:Nat):Int):=by
 cases s with
 | nil=>exact ⟨Int.le_refl 0,Int.le_refl 0⟩
 | cons c r =>
  rw [show qJ (c :: r)=bif c != 34 then ([],(0,3)) else unqR (unqG r) from rfl];cases c != 34 with
  | true=>simp only [yc,yg]; omega
  | false =>
   simp only [yd];cases e:unqG r with
   | none=>simp only [unqR,yg]; omega
   | some x =>
    have:=qho r.length r (yv _) x e;simp only [unqR,yg];omega
theorem qeU {α:Type} {l:List α} {i:Nat} {d:α} (h:i < l.length):l.getD i d=l[i]:=by simp [List.getD,h]
theorem qIv:∀ (s0:LU) (at1:Int),∃ n,qJN n s0 at1=qzU (z76 s0 at1):=fun s i=>⟨0,by
 unfold qJN z76 qF
 by_cases h:(0:Int) > i
 ·rw [dT h,yc,dF (by omega)];show qzU 0=_;have:i.toNat=0:=by omega
  rw [this]; simp
 ·rw [dF h,yd]
  by_cases h2:((s.length:Nat):Int) < i
  ·rw [dT h2,yc]; congr 1; omega
  ·rw [dF h2,yd]; congr 1; omega⟩
theorem qgC {x:Int} (h : -1000000001≤x∧x≤1000000001):IntKind.wrap .i64 x=x:=IntWalk.i64_in _ (by omega)
theorem qRC (a b:Int):(bif decide (b > a) then b else a)=max a b:=by
 by_cases h:b > a
 ·rw [dT h,yc]; omega
 ·rw [dF h,yd]; omega
theorem qEq:∀ (k0:Int×(Int×(Bool×Unit))) (c1:UInt8),(qsq k0 c1=true)→∃ n,qzV n k0 c1=qfW (z100 k0 c1).1 (z100 k0 c1).2:=fun k c h=>⟨0,by
 have h:=of_decide_eq_true h;obtain ⟨d,m,t,u⟩:=k;simp only at h;unfold qzV qbO z100 takeK;simp only [qRC];rw [qgC (by omega : -1000000001≤d+1∧d+1≤1000000001),qgC (by omega : -1000000001≤d - 1∧d - 1≤1000000001)];cases t with
 | true=>rfl
 | false =>
  simp only [yd];cases c==92 with
  | true=>rfl
  | false =>
   cases c==40 with
   | true=>rfl
   | false=>cases c==41 <;> rfl⟩
theorem qyM (k:CommT) (c:UInt8):k.1 - 1≤(takeK k c).2.1∧(takeK k c).2.1≤k.1+1:=by
 unfold takeK;cases k.2.2.1 with
 | true=>simp only [yc]; omega
 | false =>
  cases c==92 with
  | true=>simp only [yc,yd]; omega
  | false =>
   cases c==40 with
   | true=>simp only [yc,yd]; omega
   | false=>cases c==41 <;> simp only [yc,yd] <;> omega
theorem qlo:∀ (l:LU) (k:CommT),(overF k l).1≤l.length
 | [],k=>yv _
 | c :: r,k=>by
  have:=qlo r (takeK k c).2;unfold overF;cases (takeK k c).1 with
  | true=>simp
  | false=>simp only [yd,yg]; omega
theorem qsw (ret:Int→Int→OA) (s s0:LU) (hl:s.length≤1048576) (k0:LU→CommT→OA):∀ (d i n:Nat) (k:CommT),i+d=s.length→d < n→(-(i:Int)≤k.1∧k.1≤i) →
 (∀ k',k0 s0 k'=ret ((s.length:Nat):Int) k'.2.1) →
 qpD ret k0 n s0 k s ((s.length:Nat):Int) (i:Int)=ret ((i+(overF k (s.drop i)).1:Nat):Int) (overF k (s.drop i)).2.2.1
 | d,i,0,k,hi,hn,_,_=>by omega
 | 0,i,n+1,k,hi,hn,_,hk0=>by
  show qfX _ _ _ n _ _ _ _ _=_;unfold qfX;rw [dF (by omega),yA (by omega),yd,hk0];show ret _ _=ret ((i+0:Nat):Int) k.2.1;rw [show i+0=s.length by omega]
 | d+1,i,n+1,k,hi,hn,hb,hk0=>by
  show qfX _ _ _ n _ _ _ _ _=_;unfold qfX;have hlt:i < s.length:=by omega
  have htk:=qyM k (s.getD i 0);have ih:=qsw ret s s0 hl k0 d (i+1) n (takeK k (s.getD i 0)).2 (by omega) (by omega) (by omega) hk0;rw [qy (d:=(0:UInt8)) hlt];have hok:qsq k (s.getD i 0)=true:=dT (by omega);simp (disch:=omega) only [dT,yc,yi,y6,tn,qq,hok];rw [show z100 k (s.getD i 0)=takeK k (s.getD i 0) from rfl];unfold overF;cases (takeK k (s.getD i 0)).1 with
  | true=>rfl
  | false =>
   simp only [yd];rw [ih];congr 1;omega
theorem qIw:∀ (s0:LU),(qEe s0=true)→∃ n,qJO n s0=qnJ (z78 s0).1 (z78 s0).2:=fun s h=>⟨s.length+1,by
 have hl:=qk h;have:=qsw qnJ s s hl (qiO (s.length+1)) s.length 0 (s.length+1) (0,(0,(false,()))) (by omega) (by omega) (by simp) (fun _=>rfl);rw [yw,yE] at this;exact this⟩
theorem qhp (c:UInt8) (r:LU):1≤(overC (c :: r)).1:=by
 unfold overC overF;cases (takeK (0,(0,(false,()))) c).1 <;> simp
theorem qyN:∀ (n:Nat) (s:LU),gapL n s≤s.length
 | 0,s=>Nat.zero_le _
 | n+1,[]=>Nat.zero_le _
 | n+1,c :: r=>by
  have h1:=qlo (c :: r) (0,(0,(false,())));have h2:=qyN n ((c :: r).drop (overC (c :: r)).1);have h3:=qyN n r;unfold gapL;rw [yK] at h2;unfold overC at *
  cases c==40 with
  | true=>simp only [yc]; omega
  | false =>
   cases blkB c with
   | true=>simp only [yc,yd,yg]; omega
   | false=>simp
theorem qlp:∀ (n m:Nat) (s:LU),s.length < n→s.length < m→gapL n s=gapL m s
 | n+1,m+1,[],_,_=>rfl
 | n+1,m+1,c :: r,hn,hm=>by
  have h0:=qhp c r;rw [yg] at hn hm;unfold gapL;rw [qlp n m ((c :: r).drop (overC (c :: r)).1) (by rw [yK,yg]; omega) (by rw [yK,yg]; omega),qlp n m r (by omega) (by omega)]
theorem qIx (s:LU) (i:Nat) (h:s.length≤i):gapW s i=i:=by
 unfold gapW;rw [yA h]; rfl
theorem qgD (s:LU) (i:Nat) (h:i < s.length):gapW s i=bif s.getD i 0==40 then gapW s (i+(overC (s.drop i)).1) else bif blkB (s.getD i 0) then gapW s (i+1) else i:=by
 have hd:=qy (d:=(0:UInt8)) h;have hp:1≤(overC (s.drop i)).1:=by rw [hd]; exact qhp _ _
 have hlen:(s.drop (i+1)).length=s.length - (i+1):=yK;unfold gapW;rw [qlp (s.length+1) (s.length+2) (s.drop i) (by rw [yK]; omega) (by rw [yK]; omega)];rw [hd];rw [hd] at hp;show i+(bif s.getD i 0==40 then (overC (s.getD i 0 :: s.drop (i+1))).1+gapL (s.length+1) ((s.getD i 0 :: s.drop (i+1)).drop (overC (s.getD i 0 :: s.drop (i+1))).1) else bif blkB (s.getD i 0) then gapL (s.length+1) (s.drop (i+1))+1 else 0)=_;cases s.getD i 0==40 with
 | true =>
  simp only [yc];rw [← hd,List.drop_drop];omega
 | false =>
  cases blkB (s.getD i 0) with
  | true=>simp only [yc,yd]; omega
  | false=>simp
theorem qGk (s:LU) (i:Nat) (h:i≤s.length):i≤gapW s i∧gapW s i≤s.length:=by
 unfold gapW;have h1:=qyN (s.length+1) (s.drop i);rw [yK] at h1;omega
theorem qlq (s:LU) (hl:s.length≤1048576) (N:Nat):∀ (n i:Nat),i≤s.length→s.length - i < n →
 qpE qjS (qiP N) n s (i:Int)=qjS (gapW s i:Nat)
 | 0,i,hi,hn=>by omega
 | n+1,i,hi,hn=>by
  show qlB _ _ _ n _ _=_;unfold qlB qbf
  by_cases hlt:i < s.length
  ·have hd:=qy (d:=(0:UInt8)) hlt;have hp:1≤(overC (s.drop i)).1:=by rw [hd]; exact qhp _ _
   have hle:(overC (s.drop i)).1≤s.length - i:=by have:=qlo (s.drop i) (0,(0,(false,()))); rw [yK] at this; exact this
   have ih:=qlq s hl N n (i+1) (by omega) (by omega);have ih2:=qlq s hl N n (i+(overC (s.drop i)).1) (by omega) (by omega);rw [qgD s i hlt];have hok:qEe (s.drop i)=true:=qn (by rw [yK]; omega);simp (disch:=omega) only [dT,yc,yi,y6,tn,qq,List.take_length,hok];cases e0:s.getD i 0==40 with
   | true =>
    simp only [yc];rw [show (z78 (s.drop i)).1=(((overC (s.drop i)).1:Nat):Int) from rfl,show (i:Int)+(((overC (s.drop i)).1:Nat):Int)=((i+(overC (s.drop i)).1:Nat):Int) from by omega,qgC (by omega),ih2]
   | false =>
    simp only [yd];rw [show blkB (s.getD i 0)=(z77 (s.getD i 0) 2||(s.getD i 0==13||s.getD i 0==10)) from rfl];cases e2:s.getD i 0==13 with
    | true=>simp only [yc,Bool.true_or,Bool.or_true]; exact ih
    | false =>
     cases e3:s.getD i 0==10 with
     | true=>simp only [yc,yd,Bool.or_true]; exact ih
     | false =>
      cases e1:z77 (s.getD i 0) 2 with
      | true=>simp only [yc,yd,Bool.true_or]; exact ih
      | false=>rfl
  ·rw [dF (by omega),qIx s i (by omega)];rfl
theorem qIy:∀ (s0:LU) (at1:Int),(qiy s0 at1=true)→∃ n,qJP n s0 at1=qjS (z54 s0 at1):=fun s i h=>⟨s.length+1,by
 have:=qfL s i;exact qlq s (qk h) _ (s.length+1) (qF s i) this (by omega)⟩
theorem qjI (s:LU) (hl:s.length≤1048576) (i0:Int) (k0:LU→Int→Int→OA):∀ (d i n:Nat),i+d=s.length→d < n →
 qpF k0 n s i0 (i:Int)=k0 s i0 ((i+(tokN s i).length:Nat):Int)
 | d,i,0,hi,hn=>by omega
 | 0,i,n+1,hi,hn=>by
  show qfZ _ _ n _ _ _=_;unfold qfZ;rw [dF (by omega),qOp s i (by omega)];rfl
 | d+1,i,n+1,hi,hn=>by
  show qfZ _ _ n _ _ _=_;unfold qfZ;have hlt:i < s.length:=by omega
  have ih:=qjI s hl i0 k0 d (i+1) n (by omega) (by omega);rw [qRB s i hlt];simp (disch:=omega) only [dT,yc,yi,tn,qq];cases z77 (s.getD i 0) 64 with
  | true =>
   rw [yc,yc,ih,yg];congr 2; omega
  | false=>rfl
theorem qIz:∀ (s0:LU) (at1:Int),(qpj s0 at1=true)→∃ n,qES n s0 at1=qsU (z53 s0 at1).1 (z53 s0 at1).2.1 (z53 s0 at1).2.2:=fun s i h=>⟨s.length+1,by
 unfold qES z53 qW z76;have hl:=qk h;have hc:=qfL s i;have hk:=qIt s _ hc;rw [qjI s hl _ _ (s.length - qF s i) (qF s i) (s.length+1) (by omega) (by omega)];unfold qiQ;rw [qjG,qjG];cases qF s i==s.length with
 | true=>rfl
 | false =>
  rw [yd,yd];cases e:(tokN s (qF s i)).isEmpty with
  | true =>
   have:=List.isEmpty_iff.1 e;rw [this];simp
  | false =>
   have hp:0 < (tokN s (qF s i)).length:=by
    cases e2:tokN s (qF s i) with
    | nil=>rw [e2] at e; cases e
    | cons _ _=>exact Nat.zero_lt_succ _
   rw [beq_eq_false_iff_ne.2 (show qF s i+(tokN s (qF s i)).length≠qF s i by omega)];simp (disch:=omega) only [dT,yc,yd,yi,tn];rw [qIu s _ hc,show qcQ (tokN s (qF s i))=true from qn (by omega)];rfl⟩
theorem qIA:∀ (s0:LU) (at1:Int) (c2:UInt8),(qEf s0 at1 c2=true)→∃ n,qJS n s0 at1 c2=qsV (z55 s0 at1 c2).1 (z55 s0 at1 c2).2:=fun s i c h=>⟨0,by
 unfold qJS z55;have hl:s.length≤1048576:=qk h;have hc:=qfL s i;have hg:=qGk s _ hc;rw [show qiy s i=true from h];unfold z54 z76;rw [qjG]
 by_cases h1:gapW s (qF s i) < s.length
 ·rw [beq_eq_false_iff_ne.2 (by omega:gapW s (qF s i)≠s.length)];simp (disch:=omega) only [dT,yc,yd,yi,y6,tn,qq];unfold bne;cases s.getD (gapW s (qF s i)) 0==c <;> rfl
 ·rw [dF h1,beq_iff_eq.2 (by omega:gapW s (qF s i)=s.length)];rfl⟩
theorem qhq (ret:LU→Int→Int→OA) (k0:OA) (s:LU) (hl:s.length≤1048576):∀ (d i n:Nat) (out:LU),i+d=s.length→d < n→out.length≤i →
 (qlC ret k0 n out false s ((s.length:Nat):Int) (i:Int)=match unqG (s.drop i) with | some x=>ret (out++x.1) ((i+x.2+1:Nat):Int) 0 | none=>k0)
 | d,i,0,out,hi,hn,_=>by omega
 | 0,i,n+1,out,hi,hn,_=>by
  show qbn _ _ _ n _ _ _ _ _=_;unfold qbn qag;rw [dF (by omega),yA (by omega),qnw];rfl
 | 1,i,n+1,out,hi,hn,ho=>by
  show qbn _ _ _ n _ _ _ _ _=_;unfold qbn qag;have hlt:i < s.length:=by omega
  rw [qy (d:=(0:UInt8)) hlt];have hr1:out.length+([s.getD i 0]:LU).length≤room:=by unfold room; simp; omega
  have ih:=qhq ret k0 s hl 0 (i+1) n (out++[s.getD i 0]) (by omega) (by omega) (by rw [yn]; simp; omega);rw [yA (by omega:s.length≤i+1),qnw] at ih;simp (disch:=omega) only [dT,yc,yd,yi,tn,qq];rw [yA (by omega:s.length≤i+1),qsu];cases s.getD i 0==34 with
  | true =>
   rw [show (i:Int)+2=((i+2:Nat):Int) from by omega,qgC (by omega)];show _=ret (out++[]) _ 0;rw [yG];rfl
  | false =>
   simp only [yd];cases e2:s.getD i 0==92 with
   | true =>
    obtain ⟨m,rfl⟩:∃ m,n=m+1:=⟨n - 1,by omega⟩;show qbn _ _ _ m _ _ _ _ _=_;unfold qbn qag;rw [dF (by omega)];rfl
   | false =>
    simp only [yd];rw [ih]
 | d+2,i,n+1,out,hi,hn,ho=>by
  show qbn _ _ _ n _ _ _ _ _=_;unfold qbn qag;have hlt:i < s.length:=by omega
  have hlt':i+1 < s.length:=by omega
  obtain ⟨m,rfl⟩:∃ m,n=m+1:=⟨n - 1,by omega⟩;have ih:=qhq ret k0 s hl (d+1) (i+1) (m+1) (out++[s.getD i 0]) (by omega) (by omega) (by rw [yn]; simp; omega);have ih2:=qhq ret k0 s hl d (i+2) m (out++[s.getD (i+1) 0]) (by omega) (by omega) (by rw [yn]; simp; omega);have hd:=qy (d:=(0:UInt8)) hlt';rw [qy (d:=(0:UInt8)) hlt];have hr1:out.length+([s.getD i 0]:LU).length≤room:=by unfold room; simp; omega
  have hr2:out.length+([s.getD (i+1) 0]:LU).length≤room:=by unfold room; simp; omega
  simp (disch:=omega) only [dT,yc,yd,yi,tn,qq];cases e1:s.getD i 0==34 with
  | true =>
   rw [eq_of_beq e1,qlm,show (i:Int)+2=((i+2:Nat):Int) from by omega,qgC (by omega)];show _=ret (out++[]) _ 0;rw [yG];rfl
  | false =>
   cases e2:s.getD i 0==92 with
   | true =>
    rw [hd,eq_of_beq e2,qsv];simp only [yd,yc];show qbn _ _ _ m _ _ _ _ _=_;unfold qbn qag;simp (disch:=omega) only [dT,yc,yd,yi,tn,qq];rw [show qlC ret k0 m (out++[s.getD (i+1) 0]) false s ((s.length:Nat):Int) ((i+1+1:Nat):Int)=_ from ih2];cases unqG (s.drop (i+2)) with
    | none=>rfl
    | some x=>simp only [yU,yl,List.singleton_append]; congr 2; omega
   | false =>
    rw [qln _ _ e1 e2];simp only [yd];rw [ih];cases unqG (s.drop (i+1)) with
    | none=>rfl
    | some x=>simp only [yU,yl,List.singleton_append]; congr 2; omega
theorem qIB:∀ (s0:LU),(quU s0=true)→∃ n,qER n s0=qgK (z75 s0).1 (z75 s0).2.1 (z75 s0).2.2:=fun s h=>⟨s.length+1,by
 unfold qER;have hl:=qk h;cases s with
 | nil=>rfl
 | cons c r =>
  rw [yg] at hl;rw [show ((((c :: r).length:Nat):Int)==0)=false from by rw [yB]; simp only [yg]; omega];rw [dT (show (0:Int) < (((c :: r).length:Nat):Int) by simp only [yg]; omega),dT (show (1:Int)≤(((c :: r).length:Nat):Int) by simp only [yg]; omega)];simp only [yd,yc,yi,dT (show (0:Int)≤0 by omega),dT (show (0:Int)≤1 by omega),dT (Int.le_refl _)];show (bif c != 34 then _ else _)=_;rw [show z75 (c :: r)=bif c != 34 then ([],(0,3)) else unqR (unqG r) from rfl];cases c != 34 with
  | true=>rfl
  | false =>
   simp only [yd];rw [qpm,show Int.toNat 1=1 from rfl,List.drop_one,List.tail_cons];have:=qhq qgK (qfY ((c :: r).length+1)) r (by omega) r.length 0 ((c :: r).length+1) [] (by omega) (by simp only [yg]; omega) (by simp);rw [show qlC qgK (qfY ((c :: r).length+1)) ((c :: r).length+1) [] false r ((r.length:Nat):Int) 0=_ from this,yw];cases unqG r with
   | none=>rfl
   | some x=>simp only [unqR,List.nil_append,yE]⟩
theorem qIC:∀ (s0:LU) (at1:Int),(qEg s0 at1=true)→∃ n,qJT n s0 at1=qnM (z56 s0 at1).1 (z56 s0 at1).2.1 (z56 s0 at1).2.2:=fun s i h=>⟨0,by
 unfold qJT qdK z56 qbi z76;have hl:=qk h;have hc:=qfL s i;rw [qpm,qjG,show ∀ j,qpj s j=true from fun _=>h];have hcc:qW s ((qF s i:Nat):Int)=qW s i:=by
  unfold qW;rw [show qF s ((qF s i:Nat):Int)=qF s i from by unfold qF; omega]
 unfold z53;rw [hcc];cases e:qF s i==s.length with
 | true=>rfl
 | false =>
  have hne:qF s i≠s.length:=beq_eq_false_iff_ne.1 e;have hu:=qjH (s.drop (qF s i));rw [yK] at hu;simp (disch:=omega) only [dT,yc,yd,yi,Bool.false_or,tn];cases s.getD (qF s i) 0 != 34 with
  | true=>rfl
  | false =>
   simp only [yd];rw [show quU (s.drop (qF s i))=true from qn (by rw [yK]; omega)];simp only [yi,yc];unfold z75;cases (qJ (s.drop (qF s i))).2.2 != 0 with
   | true=>rfl
   | false =>
    simp only [yd];rw [IntWalk.i64_in _ (by omega)]⟩
end Go.Av
