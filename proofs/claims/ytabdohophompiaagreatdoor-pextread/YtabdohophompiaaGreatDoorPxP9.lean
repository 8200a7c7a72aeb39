import Derived.Test.YtabdohophompiaaGreatDoorPxP8
namespace Go.Av
set_option linter.unusedSimpArgs false
set_option linter.unusedVariables false
theorem qsI {α:Type} {l:List α} {i:Nat} {d:α} (h:i < l.length):l.getD i d=l[i]:=by simp [List.getD,h]
theorem qnQ (c:UInt8):∀ l:List UInt8,starN (l++[c])=match starN l with | some j=>some j | none=>bif c==42 then some l.length else none
 | []=>by
  show (bif c==42 then some 0 else none)=bif c==42 then some 0 else none
  rfl
 | d :: l=>by
  show (bif d==42 then some 0 else (starN (l++[c])).map (· + 1))=match (bif d==42 then some 0 else (starN l).map (· + 1)) with | some j=>some j | none=>bif c==42 then some (l.length+1) else none
  cases d==42 with
  | true=>rfl
  | false =>
   simp only [yd];rw [qnQ c l];cases starN l with
   | some j=>rfl
   | none=>cases c==42 <;> rfl
def starI (st:Int):Option Nat→Int
 | some j=>(j:Nat)
 | none=>st
theorem qnR (a:List UInt8) (hl:a.length≤1048576) (k0:List UInt8→Int→Option AV):∀ (i n:Nat) (st:Int),i≤a.length→i < n →
 qlV k0 n a st ((i:Int) - 1)=k0 a (starI st (starN (a.take i)))
 | i,0,st,hi,hn=>by omega
 | 0,n+1,st,hi,hn=>by
  show qeT _ _ n _ _ _=_;unfold qeT;rw [dF (by omega)];rfl
 | i+1,n+1,st,hi,hn=>by
  show qeT _ _ n _ _ _=_;unfold qeT;have hlt:i < a.length:=by omega
  rw [show (((i+1:Nat):Int) - 1)=(i:Int) by omega,IntWalk.i64_in ((i:Int) - 1) (by omega)];rw [show a.take (i+1)=a.take i++[a.getD i 0] from by rw [List.take_succ_eq_append_getElem hlt,qsI hlt],qnQ,yz,Nat.min_eq_left (by omega)];have ih:=fun st=>qnR a hl k0 i n st (by omega) (by omega);simp (disch:=omega) only [dT,yc,yi,tn,ih];cases a.getD i 0==42 with
  | true=>cases starN (a.take i) <;> rfl
  | false=>cases starN (a.take i) <;> rfl
theorem qya:∀ (a:List UInt8) (k:Nat),starN a=some k→k < a.length
 | [],k,h=>by cases h
 | c :: r,k,h=>by
  have h':(bif c==42 then some 0 else (starN r).map (· + 1))=some k:=h;cases e:c==42 with
  | true=>rw [e] at h'; cases h'; exact Nat.zero_lt_succ _
  | false =>
   rw [e] at h';cases e2:starN r with
   | none=>rw [e2] at h'; cases h'
   | some j=>rw [e2] at h'; cases h'; have:=qya r j e2; simp only [yg]; omega
theorem qEI (s:List UInt8):z21 s=qJ s:=rfl
theorem qAA:∀ (a0:List UInt8),(qfs a0=true)→∃ n,qxg n a0=qdM (z71 a0).1 (z71 a0).2.1 (z71 a0).2.2:=fun a h=>⟨a.length+1,by
 unfold qfs at h;rw [yf] at h;obtain ⟨h0,h1⟩:=h;have hl:=qp h0;unfold qxg;rw [IntWalk.i64_in _ (by omega),qnR a hl _ a.length (a.length+1) _ (yv _) (by omega),List.take_length];unfold qgU qcA qcz qbx qad qay qT z71;cases e:starN a with
 | none =>
  rw [show starI (-1) none = -1 from rfl,dT (by omega),show qdz a=true from h0];rfl
 | some k =>
  rw [e] at h1;have hk:=qya a k e;simp only [yf,ym] at h1;obtain ⟨⟨h2,h3⟩,h4⟩:=h1;rw [show starI (-1) (some k)=(k:Int) from rfl];have hn:((List.drop (Int.toNat ((0:Nat):Int)) (List.take (Int.toNat (k:Int)) a)))=a.take k:=by rw [tn,tn,yw]
  have hkl:(a.take k).length=k:=by rw [yz]; omega
  rw [dF (by omega),hn,qm (by omega),qiV,tn];have hc:(z37 (a.take k) 256 != (k:Int))=false:=by
   have:=qwz (a.take k) 256;rw [hkl,h3] at this;rw [bne,this]; rfl
  rw [hc,show quU (a.take k) 256=true from qy (by omega),show qdz (a.take k)=true from qy (by omega)];simp (disch:=omega) only [dT,yc,yd,yi];show _=qdM (attrR a k).1 (attrR a k).2.1 (attrR a k).2.2;unfold attrR;cases er:(a.drop (k+1)).isEmpty with
  | true =>
   rw [List.isEmpty_iff.1 er];rfl
  | false =>
   rw [er] at h4;simp only [Bool.false_or,yf] at h4;obtain ⟨h5,h6⟩:=h4;have hp:0 < (a.drop (k+1)).length:=by
    cases e2:a.drop (k+1) with
    | nil=>rw [e2] at er; cases er
    | cons _ _=>exact Nat.zero_lt_succ _
   have hll:(a.drop (k+1)).length≤a.length:=by rw [yK]; omega
   rw [show ((((a.drop (k+1)).length:Nat):Int)==0)=false from by rw [beq_eq_false_iff_ne]; omega,IntWalk.i64_in ((((a.drop (k+1)).length:Nat):Int) - 1) (by omega)];rw [show ((((a.drop (k+1)).length:Nat):Int) - 1)=(((a.drop (k+1)).length - 1:Nat):Int) by omega,tn,h5,tn,yw,h6];simp (disch:=omega) only [dT,yc,yd,yi];obtain ⟨i,hi⟩:=qgC h6;rw [show z104 ((a.drop (k+1)).take ((a.drop (k+1)).length - 1))=((i.val:Nat):Int) from by rw [hi]; exact qAz i];rw [dF (by omega),show numV ((a.drop (k+1)).take ((a.drop (k+1)).length - 1))=((i.val:Nat):Int) from by rw [hi]; exact qAz i];rfl⟩
theorem qsJ {s:List UInt8} {fr i:Nat} (k:Nat) (h1:fr≤i) (h2:i≤s.length):(s.take (i+k)).drop fr=(s.take i).drop fr++(s.drop i).take k:=by
 rw [List.take_add,List.drop_append_of_le_length (by rw [yz]; omega)]
theorem qsK (n:Nat) (cur:List UInt8):ptsQ (n+1) [] cur=[cur]:=rfl
theorem qfH (n:Nat) (c:UInt8) (r cur:List UInt8):ptsQ (n+1) (c :: r) cur=bif c==34 then
 (match unqG r with | some x=>ptsQ n (r.drop x.2) (cur++c :: r.take x.2) | none=>[cur++c :: r])
 else bif c==59 then cur :: ptsQ n r [] else ptsQ n r (cur++[c]):=rfl
theorem qfI (n:Nat) (c:UInt8) (r:List UInt8):ptsB (n+1) (c :: r)=bif c==34 then
 (match unqG r with | some x=>ptsB n (r.drop x.2) | none=>true)
 else (c != 40)&&ptsB n r:=rfl
theorem qbW (s:List UInt8) (hl:s.length≤1048576) (N:Nat):∀ (n i fr:Nat) (out:List (List UInt8)),fr≤i→i≤s.length→s.length - i < n→out.length≤i→ptsB n (s.drop i)=true →
 qje (qeO N) n s out (fr:Int) (i:Int)=qtG (out++ptsQ n (s.drop i) ((s.take i).drop fr))
 | 0,i,fr,out,hf,hi,hn,ho,hb=>by omega
 | n+1,i,fr,out,hf,hi,hn,ho,hb=>by
  show qjd _ _ n _ _ _ _=_;unfold qjd qcx
  by_cases hlt:i < s.length
  ·have hcur:=qsJ (s:=s) (fr:=fr) (i:=i) 1 hf hi;have hd:=qC (d:=(0:UInt8)) hlt;rw [hd] at hb ⊢;rw [qfI] at hb;rw [qfH,qiV];simp (disch:=omega) only [dT,yc,yi,tn,qm];cases e1:s.getD i 0==34 with
   | true =>
    rw [e1] at hb;simp only [yc] at hb ⊢;rw [hd,show qps (s.getD i 0 :: s.drop (i+1))=true from qy (by simp only [yg,yK]; omega)];rw [show z66 (s.getD i 0 :: s.drop (i+1))=unqR (unqG (s.drop (i+1))) from by
     show (bif s.getD i 0 != 34 then _ else _)=_;rw [bne,e1]; rfl]
    simp only [yc];cases eu:unqG (s.drop (i+1)) with
    | none =>
     rw [IntWalk.i64_in (((s.length:Nat):Int) - i) (by omega),IntWalk.i64_in _ (by omega)];show qje _ n s out fr ((i:Int)+(((s.length:Nat):Int) - i))=_;rw [show ((i:Int)+(((s.length:Nat):Int) - i))=((s.length:Nat):Int) by omega];obtain ⟨m,rfl⟩:∃ m,n=m+1:=⟨n - 1,by omega⟩;rw [qbW s hl N (m+1) s.length fr out (by omega) (yv _) (by omega) (by omega) (by rw [List.drop_length]; rfl),List.drop_length,qsK];congr 3;have:=qsJ (s:=s) (fr:=fr) (i:=i) (s.length - i) hf hi;rw [show i+(s.length - i)=s.length by omega] at this;rw [this,show (s.drop i).take (s.length - i)=s.drop i from List.take_of_length_le (by rw [yK]; omega),hd]
    | some x =>
     rw [eu] at hb;have hx:=qfG _ _ (yv _) x eu;rw [yK] at hx;simp only at hb;rw [List.drop_drop] at hb;show qje _ n s out fr (IntKind.wrap .i64 ((i:Int)+((x.2+1:Nat):Int)))=_;rw [IntWalk.i64_in _ (by omega),show ((i:Int)+((x.2+1:Nat):Int))=((i+1+x.2:Nat):Int) by omega];rw [qbW s hl N n (i+1+x.2) fr out (by omega) (by omega) (by omega) (by omega) hb];congr 2;show _=ptsQ n ((s.drop (i+1)).drop x.2) _;rw [List.drop_drop];congr 1;have:=qsJ (s:=s) (fr:=fr) (i:=i) (x.2+1) hf hi;rw [show i+(x.2+1)=i+1+x.2 by omega] at this;rw [this,hd,List.take_succ_cons]
   | false =>
    rw [e1] at hb;simp only [yd,yf,bne_iff_ne,ne_eq] at hb ⊢;obtain ⟨hb1,hb2⟩:=hb;rw [show (s.getD i 0==40)=false from beq_eq_false_iff_ne.2 hb1];simp only [yd];cases e2:s.getD i 0==59 with
    | true =>
     rw [show ((List.take i s).drop fr)=(s.take i).drop fr from rfl];simp (disch:=omega) only [dT,yc,yi];rw [dT (show out.length+([(s.take i).drop fr]:List (List UInt8)).length≤room by unfold room; simp; omega),yc];rw [qbW s hl N n (i+1) (i+1) _ (yv _) (by omega) (by omega) (by rw [yn]; simp; omega) hb2];rw [yl,yA (as:=s.take (i+1)) (by rw [yz]; omega)];rfl
    | false =>
     rw [yd,yd,qbW s hl N n (i+1) fr out (by omega) (by omega) (by omega) (by omega) hb2,hcur,hd];rfl
  ·have hie:i=s.length:=by omega
   subst hie;rw [dF (by omega),yd,List.drop_length,qsK];unfold qeO;rw [qiV,List.take_length,tn];simp (disch:=omega) only [dT,yc,yi];rw [dT (show out.length+([s.drop fr]:List (List UInt8)).length≤room by unfold room; simp; omega)];rfl
theorem qAB:∀ (s0:List UInt8),(qpt s0=true)→∃ n,qBl n s0=qtG (z38 s0):=fun s h=>⟨s.length+1,by
 unfold qpt at h;rw [yf] at h;have:=qbW s (qp h.1) (s.length+1) (s.length+1) 0 0 [] (yv _) (Nat.zero_le _) (by omega) (yv _) h.2;exact this⟩
theorem qAC:∀ (part0:List UInt8),(qwy part0=true)→∃ n,qBq n part0=qyF (z40 part0):=fun p h=>⟨0,by
 unfold qBq;rw [show qav p 0=true from h];unfold z67 z40 qF;rw [qhz,show min (Int.toNat 0) p.length=0 from Nat.zero_min _];rfl⟩
theorem qAD:∀ (part0:List UInt8),(qel part0=true)→∃ n,qBp n part0=qhJ (z39 part0).1 (z39 part0).2:=fun p h=>⟨0,by
 unfold qel at h;simp only [yf] at h;obtain ⟨⟨h1,h2⟩,⟨h3,h4⟩,h5⟩:=h;have hl:lenOk p=true:=by unfold qav at h1; rw [yf] at h1; exact h1.1
 unfold qBp qdP qbD qdO qdN z39;rw [h1,show qlw p (z67 p 0)=true from hl,show z68 p (z67 p 0)=oneT p from rfl,show qww p (oneT p).2.1 61=true from h2,
  show z69 p (oneT p).2.1 61=oneS p from rfl,h3,show qwx p (z67 p (oneS p).1)=true from hl,show z70 p (z67 p (oneS p).1)=oneV p from rfl,h4,h5]
 cases (oneT p).2.2 != 0 with
 | true=>rfl
 | false =>
  cases (oneS p).2 with
  | false=>rfl
  | true =>
   cases (oneV p).2.2 != 0 with
   | true=>rfl
   | false=>cases z67 p (oneV p).2.1 != ((p.length:Nat):Int) <;> rfl⟩
theorem qnS (l:List (List UInt8)) (hl:l.length≤1048576) (ha:l.all qel=true) (N:Nat):∀ (d i n:Nat) (out:List qiJ) (bad:Nat),i+d=l.length→d < n→out.length≤i→bad≤i →
 qlW (qgV N) n out (bad:Int) l (i:Int)=qkF (out++(readF (l.drop i)).1) ((bad:Int)+(readF (l.drop i)).2)
 | d,i,0,out,bad,hi,hn,ho,hb=>by omega
 | 0,i,n+1,out,bad,hi,hn,ho,hb=>by
  show qeU _ _ n _ _ _ _=_;unfold qeU qaj;rw [dF (by omega),yA (by omega)];show qkF out bad=qkF (out++[]) ((bad:Int)+((0:Nat):Int));rw [yG];congr 1
 | d+1,i,n+1,out,bad,hi,hn,ho,hb=>by
  show qeU _ _ n _ _ _ _=_;unfold qeU qaj;have hlt:i < l.length:=by omega
  have hone:qel (l.getD i [])=true:=by
   rw [qsI hlt];exact List.all_eq_true.1 ha _ (List.getElem_mem hlt)
  have hemp:qwy (l.getD i [])=true:=by
   have:=hone;unfold qel at this;simp only [yf] at this;exact this.1.1
  rw [qC (d:=([]:List UInt8)) hlt];have ih:=fun out bad=>qnS l hl ha N d (i+1) n out bad (by omega) (by omega);simp (disch:=omega) only [dT,yc,yi,tn,qm];rw [hone,hemp];unfold readF;rw [List.flatMap_cons,List.countP_cons];cases e:(z39 (l.getD i [])).2==0 with
  | true =>
   rw [yc,yc];rw [dT (show out.length+([(z39 (l.getD i [])).1]:List qiJ).length≤room by unfold room; simp; omega),yc,ih _ _ (by rw [yn]; simp; omega) (by omega)];rw [show ((z39 (l.getD i [])).2 != 0)=false from by rw [bne,e]; rfl];rw [yc,yl];rfl
  | false =>
   rw [yc,yd,yc];rw [show ((z39 (l.getD i [])).2 != 0)=true from by rw [bne,e]; rfl];cases z40 (l.getD i []) with
   | true =>
    simp only [Bool.not_true,yd];rw [ih _ _ (by omega) (by omega)];rfl
   | false =>
    simp only [Bool.not_false,yc];rw [ih _ _ (by omega) (by omega)];unfold readF;simp only [yd,List.nil_append,yi,if_true];congr 1;omega
theorem qAE:∀ (s0:List UInt8),(qpu s0=true)→∃ n,qxh n s0=qkF (z20 s0).1 (z20 s0).2:=fun s h=>⟨(z38 s).length+1,by
 unfold qpu at h;simp only [yf,ym] at h;obtain ⟨h1,h2,h3⟩:=h;unfold qxh;rw [h1];have:=qnS (z38 s) h3 h2 ((z38 s).length+1) (z38 s).length 0 ((z38 s).length+1) [] 0 (by omega) (by omega) (yv _) (yv _);rw [yw] at this;rw [show ((0:Nat):Int)+(readF (z38 s)).2=(readF (z38 s)).2 from Int.zero_add _] at this;exact this⟩
end Go.Av
