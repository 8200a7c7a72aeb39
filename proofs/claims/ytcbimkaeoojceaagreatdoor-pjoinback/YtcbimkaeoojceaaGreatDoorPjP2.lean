import Derived.Test.YtcbimkaeoojceaaGreatDoorPjP1
namespace Go.Av
set_option linter.unusedSimpArgs false
set_option linter.unusedVariables false
theorem qiA (x:UInt8):∀ s:LU,Lib.indexByte s x=match chN x s with | some k=>(k:Int) | none => -1
 | []=>rfl
 | c :: r=>by
  unfold Lib.indexByte chN;rw [qiA x r];cases c==x with
  | true=>rfl
  | false =>
   cases chN x r with
   | none=>rfl
   | some k =>
    simp only [yq,if_false,yd,yU];rw [if_neg (by rw [beq_iff_eq]; omega)];rfl
theorem ch_lt {x:UInt8}:∀ {s:LU} {k:Nat},chN x s=some k→k < s.length
 | [],k,h=>by cases h
 | c :: r,k,h=>by
  unfold chN at h;cases e:c==x with
  | true=>rw [e] at h; cases h; simp
  | false =>
   rw [e,yd] at h;obtain ⟨j,hj,rfl⟩:=Option.map_eq_some_iff.1 h;have:=ch_lt hj;rw [yg]; omega
theorem qGn:∀ s:LU,starN s=chN 42 s
 | []=>rfl
 | c :: r=>by unfold starN chN; rw [qGn r]
theorem qIG (s:LU) (x:UInt8):z65 s [x]=match chN x s with | some k=>(s.take k,s.drop (k+1),true) | none=>(s,[],false):=by
 unfold z65;rw [Lib.index_one,qiA];cases chN x s with
 | none=>rfl
 | some k =>
  simp only [dT (show (0:Int)≤(k:Int) by omega),yc,tn];rfl
theorem qyR {s:LU} (x:UInt8) (h:s.length≤1048576):qmO s [x]=true:=by
 unfold qmO;rw [qn h];rfl
theorem qRF {r:LU} {x:LU×Nat} (h:unqG r=some x):x.2≤r.length∧0 < x.2:=qho r.length r (yv _) x h
theorem qeV (c:UInt8) (r:LU):overP (c :: r)=bif c==34 then (match unqG r with | some x=>x.2+1 | none=>r.length+1) else bif c==40 then gapW (c :: r) 0 else 1:=rfl
theorem qIH:∀ s:LU,s≠[]→1≤overP s∧overP s≤s.length
 | [],h=>absurd rfl h
 | c :: r,_=>by
  rw [qeV]
  by_cases e1:c=34
  ·rw [beq_iff_eq.2 e1,yc];cases e:unqG r with
   | none=>simp
   | some x=>have:=qRF e; simp only [yg]; omega
  ·rw [beq_eq_false_iff_ne.2 e1,yd]
   by_cases e2:c=40
   ·rw [beq_iff_eq.2 e2,yc];have h1:=qgD (c :: r) 0 (by simp);rw [show (c :: r).getD 0 0=c from rfl,beq_iff_eq.2 e2,yc] at h1;have h2:(overC ((c :: r).drop 0)).1≤(c :: r).length:=qlo (c :: r) _;have h3:=qGk (c :: r) (0+(overC ((c :: r).drop 0)).1) (by omega);have h4:1≤(overC ((c :: r).drop 0)).1:=qhp c r;omega
   ·rw [beq_eq_false_iff_ne.2 e2,yd];simp
theorem qII:∀ (s0:LU),(quV s0=true)→∃ n,qJQ n s0=qnK (z52 s0):=fun s h=>⟨0,by
 unfold quV at h;rw [yf] at h;have hl:=qk h.1;unfold qJQ;cases s with
 | nil=>exact absurd h.2 (by decide)
 | cons c r =>
  rw [dT (show (0:Int) < (((c :: r).length:Nat):Int) by simp only [yg]; omega)];simp only [yc,yi,dT (show (0:Int)≤0 by omega)];rw [show (List.getD (c :: r) (Int.toNat 0) 0)=c from rfl,show quU (c :: r)=true from h.1,show qiy (c :: r) 0=true from h.1];unfold z52;rw [qeV]
  by_cases e1:c=34
  ·rw [beq_iff_eq.2 e1,yc,yc];rw [show z75 (c :: r)=unqR (unqG r) from by show (bif c != 34 then _ else _)=_; rw [bne,beq_iff_eq.2 e1]; rfl];cases e:unqG r with
   | none=>rfl
   | some x=>rfl
  ·rw [beq_eq_false_iff_ne.2 e1,yd,yd]
   by_cases e2:c=40
   ·rw [beq_iff_eq.2 e2]; rfl
   ·rw [beq_eq_false_iff_ne.2 e2]; rfl⟩
theorem qIJ:∀ (part0:LU),(qEk part0=true)→∃ n,qJU n part0=qzX (z57 part0):=fun p h=>⟨0,by
 unfold qJU;rw [show qiy p 0=true from h];show qzX (((gapW p (qF p 0):Nat):Int)==((p.length:Nat):Int))=_;rw [qjG,show qF p 0=0 from by unfold qF; simp];rfl⟩
theorem dig0:∀ i:Fin 256,(!(z77 (UInt8.ofNat i.val) 8)||(decide ((UInt8.ofNat i.val - 48).toNat=(UInt8.ofNat i.val).toNat - 48)&&decide ((UInt8.ofNat i.val).toNat - 48≤9)))=true:=by decide +kernel
theorem qRG (c:UInt8) (h:z77 c 8=true):(c - 48).toNat=c.toNat - 48∧c.toNat - 48≤9:=by
 have:=qlU (P:=fun c=>(!(z77 c 8)||(decide ((c - 48).toNat=c.toNat - 48)&&decide (c.toNat - 48≤9)))=true) dig0 c;rw [h] at this;simpa using this
theorem qjJ (s:LU) (hl:s.length≤3) (hd:s.all (fun c=>z77 c 8)=true) (N:Nat):∀ (d i n a:Nat),i+d=s.length→d < n→a*10 ^ d < 1000 →
 qlE (qeo N) n (a:Int) s ((s.length:Nat):Int) (i:Int)=qgL (((s.drop i).foldl (fun a c=>a*10+(c.toNat - 48)) a:Nat):Int)
 | d,i,0,a,hi,hn,_=>by omega
 | 0,i,n+1,a,hi,hn,_=>by
  show qdk _ _ n _ _ _ _=_;unfold qdk;rw [dF (by omega),yA (by omega)];rfl
 | d+1,i,n+1,a,hi,hn,ha=>by
  show qdk _ _ n _ _ _ _=_;unfold qdk;have hlt:i < s.length:=by omega
  have hc:z77 (s.getD i 0) 8=true:=by rw [qeU hlt]; exact List.all_eq_true.1 hd _ (List.getElem_mem hlt)
  obtain ⟨h1,h2⟩:=qRG _ hc;have hp:a*10*10 ^ d < 1000:=by rw [Nat.mul_assoc,← Nat.pow_succ']; exact ha
  have ha3:a*10 < 1000:=Nat.lt_of_le_of_lt (Nat.le_mul_of_pos_right _ (Nat.pow_pos (by omega))) hp;rw [qy (d:=(0:UInt8)) hlt,List.foldl_cons];have e1:IntKind.wrap .i64 (IntKind.wrap .i64 (10*(a:Int))+IntKind.wrap .i64 (((s.getD i 0 - 48).toNat:Nat):Int))=((a*10+((s.getD i 0).toNat - 48):Nat):Int):=by
   rw [h1,IntWalk.i64_in (10*(a:Int)) (by omega),IntWalk.i64_in (((((s.getD i 0).toNat - 48):Nat):Int)) (by omega),IntWalk.i64_in _ (by omega)];omega
  simp (disch:=omega) only [dT,yc,yi,tn,qq];rw [e1]
  by_cases hd0:d=0
  ·subst hd0;obtain ⟨m,rfl⟩:∃ m,n=m+1:=⟨n - 1,by omega⟩;show qdk _ _ m _ _ _ _=_;unfold qdk;rw [dF (by omega),yA (by omega)];rfl
  ·refine qjJ s hl hd N d (i+1) n _ (by omega) (by omega) ?_;have h9:(a*10+((s.getD i 0).toNat - 48))*10 ^ d < (a+1)*10 ^ (d+1):=by
    have:a*10+((s.getD i 0).toNat - 48) < (a+1)*10:=by omega
    calc (a*10+((s.getD i 0).toNat - 48))*10 ^ d < (a+1)*10*10 ^ d:=Nat.mul_lt_mul_of_pos_right this (Nat.pow_pos (by omega))
     _=(a+1)*10 ^ (d+1):=by rw [Nat.mul_assoc,← Nat.pow_succ']
   have hd3:d=1∨d=2:=by omega
   rcases hd3 with rfl | rfl
   ·simp only [Nat.pow_succ,Nat.pow_zero,Nat.one_mul] at ha h9 ⊢; omega
   ·simp only [Nat.pow_succ,Nat.pow_zero,Nat.one_mul] at ha h9 ⊢; omega
theorem qGo (s:LU):(((s.length:Nat):Int)==0)=s.isEmpty:=by cases s <;> simp <;> omega
theorem qIK:∀ (s0:LU),(qEi s0=true)→∃ n,qET n s0=qgL (z81 s0):=fun s h=>⟨4,by
 unfold qET z81;rw [qGo];cases e0:s.isEmpty with
 | true=>rfl
 | false =>
  by_cases h3:3 < s.length
  ·rw [dT (by omega:(3:Int) < ((s.length:Nat):Int)),dT h3]; rfl
  ·rw [dF (by omega:¬ (3:Int) < ((s.length:Nat):Int)),dF h3,show qud s 8=true from h];have hp:0 < s.length:=by cases s with | nil=>exact absurd e0 (by decide) | cons _ _=>simp
   simp only [yd,yc,yi,Bool.false_or];cases ha:z79 s 8 with
   | false=>rfl
   | true =>
    have hloop:qlE (qeo 4) 4 (0:Int) s ((s.length:Nat):Int) (0:Int)=qgL (numV s):=by
     have:=qjJ s (by omega) ha 4 s.length 0 4 0 (by omega) (by omega) (by simp);rw [yw] at this;exact this
    rw [hloop];simp (disch:=omega) only [dT,yc,yi,Bool.not_true,Bool.false_or,tn];rw [show Int.toNat 0=0 from rfl];cases s.getD 0 0==48 with
    | false=>rfl
    | true =>
     by_cases h1:1 < s.length
     ·rw [dT (by omega:(1:Int) < ((s.length:Nat):Int)),dT h1]; rfl
     ·rw [dF (by omega:¬ (1:Int) < ((s.length:Nat):Int)),dF h1]; rfl⟩
theorem qOs (s t:LU):(z80 s t).1.length≤s.length:=by
 unfold z80;cases z102 s t with
 | true=>simp only [yc,yz]; omega
 | false=>simp
theorem qIL:∀ (a0:LU),(qEj a0=true)→∃ n,qJX n a0=qiR (z58 a0).1 (z58 a0).2.1 (z58 a0).2.2:=fun a h=>⟨0,by
 have hl:=qk h;have hf:(z28 a).length=a.length:=by unfold z28; rw [yP]
 unfold qJX qfi qbl z58;rw [show qgX a=true from h,qyR 42 (by omega),qIG,qGn];simp only [yi,yc];cases e:chN 42 (z28 a) with
 | none=>rfl
 | some k =>
  have hk:=ch_lt e;have ht:((z28 a).take k).length=k:=by rw [yz]; omega
  have hd:((z28 a).drop (k+1)).length≤a.length:=by rw [yK]; omega
  have hcs:=qOs ((z28 a).drop (k+1)) [42];unfold attrW;simp only [ht,Bool.not_true,yd,qGo];rw [show qud ((z28 a).take k) 256=true from qn (by omega),show qEd ((z28 a).drop (k+1)) [42]=true from qn (by omega),
   show qEi (z80 ((z28 a).drop (k+1)) [42]).1=true from qn (by omega),show (((k:Nat):Int)==0)=(k==0) from qjG k 0]
  simp only [yi,yc];cases k==0 with
  | true=>rfl
  | false =>
   cases z79 ((z28 a).take k) 256 with
   | false=>rfl
   | true =>
    cases ((z28 a).drop (k+1)).isEmpty with
    | true=>rfl
    | false =>
     cases z81 (z80 ((z28 a).drop (k+1)) [42]).1 == -1 <;> rfl⟩
theorem qIM:∀ (value0:LU),(qEo value0=true)→∃ n,qJx n value0=qsN (z46 value0).1 (z46 value0).2.1 (z46 value0).2.2:=fun v h=>⟨0,by
 have hl:=qk h;unfold qJx qbX z46;rw [qyR 39 hl,qIG];simp only [yi,yc,show qcQ v=true from h];cases e:chN 39 v with
 | none=>rfl
 | some i =>
  have hi:=ch_lt e;simp only [yc];rw [qyR 39 (by rw [yK]; omega),qIG];simp only [yc];cases e2:chN 39 (v.drop (i+1)) with
  | none=>rfl
  | some j =>
   simp only [yc];rw [show qcQ (v.take i)=true from qn (by rw [yz]; omega),show qcQ ((v.drop (i+1)).drop (j+1))=true from qn (by rw [yK,yK]; omega)];rfl⟩
theorem qdy (n:Nat) (c:UInt8) (r cur:LU):ptsW (n+1) (c :: r) cur=bif c==59 then cur :: ptsW n r [] else ptsW n ((c :: r).drop (overP (c :: r))) (cur++(c :: r).take (overP (c :: r))):=rfl
theorem qfM (N:Nat):∀ (n m:Nat) (s:LU) (i:Nat) (l:List LU),i≤s.length→l.length+s.length≤1048576→s.length - i < n→s.length - i < m →
 qnL (qen N) n s l (i:Int)=qzW (l++ptsW m (s.drop i) (s.take i))
 | 0,m,s,i,l,_,_,hn,_=>by omega
 | n+1,0,s,i,l,_,_,_,hm=>by omega
 | n+1,m+1,s,i,l,hi,hl,hn,hm=>by
  show qlD _ _ n _ _ _=_;unfold qlD
  by_cases hlt:i < s.length
  ·have hd:=qy (d:=(0:UInt8)) hlt;obtain ⟨o1,o2⟩:=qIH (s.drop i) (by rw [hd]; simp);rw [yK] at o2;have hko:quV (s.drop i)=true:=by
    unfold quV;rw [qn (by rw [yK]; omega),hd];rfl
   have hco:qcQ (s.take i)=true:=qn (by rw [yz]; omega);have hrm:l.length+([z43 (s.take i)]:List LU).length≤room:=by unfold room; simp; omega
   have ih1:=qfM N n m s (i+overP (s.drop i)) l (by omega) hl (by omega) (by omega);have ih2:=qfM N n m (s.drop (i+1)) 0 (l++[s.take i]) (by omega) (by rw [yn,yK]; simp; omega) (by rw [yK]; omega) (by rw [yK]; omega);have hp:ptsW (m+1) (s.drop i) (s.take i)=bif s.getD i 0==59 then s.take i :: ptsW m (s.drop (i+1)) [] else ptsW m (s.drop (i+overP (s.drop i))) (s.take (i+overP (s.drop i))):=by
    have e1:(s.drop i).drop (overP (s.drop i))=s.drop (i+overP (s.drop i)):=List.drop_drop;have e2:s.take i++(s.drop i).take (overP (s.drop i))=s.take (i+overP (s.drop i)):=List.take_add.symm;rw [← e1,← e2,hd,qdy]
   rw [hp];simp (disch:=omega) only [dT,yc,yi,y6,tn,qq,List.take_length,yw,hko,hco,show Int.toNat ((0:Nat):Int)=0 from rfl];unfold bne;cases s.getD i 0==59 with
   | false =>
    simp only [Bool.not_false,yc,yd];rw [show z52 (s.drop i)=((overP (s.drop i):Nat):Int) from rfl,show (i:Int)+((overP (s.drop i):Nat):Int)=((i+overP (s.drop i):Nat):Int) from by omega,qgC (by omega),ih1]
   | true =>
    simp only [Bool.not_true,yc,yd];have ih2':qnL (qen N) n (s.drop (i+1)) (l++[z43 (s.take i)]) 0=_:=ih2;rw [ih2',yl];rfl
  ·have e1:s.drop i=[]:=yA (by omega);have e2:s.take i=s:=List.take_of_length_le (by omega);rw [dF (by omega),e1,e2,yd];unfold qen;rw [show qcQ s=true from qn (by omega),dT (show l.length+([z43 s]:List LU).length≤room by unfold room; simp; omega)];rfl
theorem qIN:∀ (s0:LU),(qEh s0=true)→∃ n,qJR n s0=qzW (z31 s0):=fun s h=>⟨s.length+1,by
 have hl:=qk h;exact qfM _ (s.length+1) (s.length+1) s 0 [] (by omega) (by simp; omega) (by omega) (by omega)⟩
theorem qpo (s:LU) (i:Int):0≤(qbi s i).2.1∧(qbi s i).2.1≤((s.length:Nat):Int):=by
 have hc:=qfL s i;have hk:=qIt s _ hc;have hu:=qjH (s.drop (qF s i));rw [yK] at hu;unfold qbi;cases (qF s i==s.length)||(s.getD (qF s i) 0 != 34) with
 | true =>
  rw [yc];unfold qW;cases qF s i==s.length with
  | true=>simp
  | false =>
   cases (tokN s (qF s i)).isEmpty with
   | true=>simp
   | false=>simp only [yd]; omega
 | false =>
  rw [yd];cases (qJ (s.drop (qF s i))).2.2 != 0 with
  | true=>simp
  | false=>simp only [yd]; omega
theorem qEr (s:LU) (i:Int):(qW s i).1.length≤s.length:=by
 have hc:=qfL s i;have hk:=qIt s _ hc;unfold qW;cases qF s i==s.length with
 | true=>simp
 | false =>
  cases (tokN s (qF s i)).isEmpty with
  | true=>simp
  | false=>simp only [yd]; omega
theorem qIO:∀ (part0:LU),(qEl part0=true)→∃ n,qJY n part0=qjT (z32 part0).1 (z32 part0).2:=fun p h=>⟨0,by
 have hl:=qk h;unfold qJY qdM qfk qhB qfj qlF z32;have hG:∀ i,qiy p i=true:=fun _=>h;have hT:∀ i,qpj p i=true:=fun _=>h;have hS:∀ i c,qEf p i c=true:=fun _ _=>h;have hV:∀ i,qEg p i=true:=fun _=>h;have hA:qEj (z53 p (z54 p 0)).1=true:=qn (by have:=qEr p (z54 p 0); exact yL this hl);have hr:=qpo p (z54 p (oneSW p).1);have hE:qEk (p.drop (oneVW p).2.1.toNat)=true:=qn (by rw [yK]; omega);simp only [hG,hT,hS,hV,hA,yi,yc];rw [show z53 p (z54 p 0)=oneTW p from rfl,show z55 p (oneTW p).2.1 61=oneSW p from rfl,show z56 p (z54 p (oneSW p).1)=oneVW p from rfl];have hr':0≤(oneVW p).2.1∧(oneVW p).2.1≤((p.length:Nat):Int):=hr;cases (oneTW p).2.2 != 0 with
 | true=>rfl
 | false =>
  cases (oneSW p).2 with
  | false=>rfl
  | true =>
   cases (oneVW p).2.2 != 0 with
   | true=>rfl
   | false =>
    simp only [yd,Bool.not_true,Bool.false_or];rw [dT hr'.1,dT hr'.2,dT (Int.le_refl _),qpm,hE];cases z57 (p.drop (oneVW p).2.1.toNat) <;> rfl⟩
theorem qpp:∀ (n:Nat) (s cur:LU),(ptsW n s cur).length≤s.length+1
 | 0,s,cur=>by simp [ptsW]
 | n+1,[],cur=>by simp [ptsW]
 | n+1,c :: r,cur=>by
  rw [qdy];have h1:=qpp n r [];have h2:=qpp n ((c :: r).drop (overP (c :: r))) (cur++(c :: r).take (overP (c :: r)));rw [yK] at h2;cases c==59 with
  | true=>simp only [yc,yg]; omega
  | false=>simp only [yd]; omega
def totL (l:List LU):Nat:=(l.map List.length).sum
theorem qsz (x:LU) (l:List LU):totL (x :: l)=x.length+totL l:=by simp [totL]
theorem qpq:∀ (n:Nat) (s cur:LU),totL (ptsW n s cur)≤s.length+cur.length
 | 0,s,cur=>by simp [ptsW,totL]
 | n+1,[],cur=>by simp [ptsW,totL]
 | n+1,c :: r,cur=>by
  rw [qdy];have h1:=qpq n r [];have h2:=qpq n ((c :: r).drop (overP (c :: r))) (cur++(c :: r).take (overP (c :: r)));rw [yK,yn,yz] at h2;rw [List.length_nil] at h1;cases c==59 with
  | true=>simp only [yc,qsz,yg]; omega
  | false=>simp only [yd]; omega
theorem qGp {x:LU}:∀ {l:List LU},x∈l→x.length≤totL l
 | y :: l,h=>by
  rw [qsz];rcases List.mem_cons.1 h with rfl | h
  ·omega
  ·have:=qGp h; omega
theorem qnz (ps:List LU) (hp:∀ x∈ps,x.length≤1048576) (hl:ps.length≤2097152) (N:Nat):∀ (d i n:Nat) (out:List qi),i+d=ps.length→d < n→out.length≤i →
 qpH (qgb N) n out ps ((ps.length:Nat):Int) (i:Int)=qAc (out++(ps.drop i).flatMap fun p=>bif (z32 p).2==0 then [(z32 p).1] else [])
 | d,i,0,out,hi,hn,_=>by omega
 | 0,i,n+1,out,hi,hn,_=>by
  show qga _ _ n _ _ _ _=_;unfold qga;rw [dF (by omega),yA (by omega)];simp [qgb]
 | d+1,i,n+1,out,hi,hn,ho=>by
  show qga _ _ n _ _ _ _=_;unfold qga;have hlt:i < ps.length:=by omega
  have ih:=qnz ps hp hl N d (i+1) n;have hok:qEl (ps.getD i [])=true:=qn (by rw [qeU hlt]; exact hp _ (List.getElem_mem hlt));rw [qy (d:=([]:LU)) hlt,List.flatMap_cons];simp (disch:=omega) only [dT,yc,yi,y6,tn,qq,hok];cases (z32 (ps.getD i [])).2==0 with
  | true =>
   simp only [yc];rw [dT (show out.length+([(z32 (ps.getD i [])).1]:List qi).length≤room by unfold room; simp; omega),yc,ih _ (by omega) (by omega) (by rw [yn]; simp; omega),yl]
  | false =>
   simp only [yd];rw [ih _ (by omega) (by omega) (by omega),List.nil_append]
theorem qIP:∀ (s0:LU),(qEm s0=true)→∃ n,qEU n s0=qAc (z15 s0):=fun s h=>⟨(z31 s).length+1,by
 have hl:=qk h;unfold qEU;have h1:=qpp (s.length+1) s [];have h2:=qpq (s.length+1) s [];rw [show qEh s=true from h];exact qnz (z31 s) (fun x hx=>by have:=qGp hx; unfold z31 at this; rw [List.length_nil] at h2; omega) (by unfold z31; omega) _ (z31 s).length 0 _ [] (by omega) (by omega) (by simp)⟩
end Go.Av
