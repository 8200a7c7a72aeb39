import Derived.Test.YtcbimkaeoojceaaGreatDoorPjP2
namespace Go.Av
set_option linter.unusedSimpArgs false
set_option linter.unusedVariables false
theorem qtq (s:List UInt8) (i:Nat) (x:UInt8) (h:i < s.length):z113 s (i:Int) x=z113 (s.drop i) 0 x:=by
 unfold z113 qzX;rw [yK,tn,show Int.toNat 0=0 from rfl,dT (by omega:(0:Int)≤(i:Int)),dT (by omega:(0:Int)≤0)];rw [show decide ((i:Int)≤(s.length:Int) - 3)=decide ((0:Int)≤((s.length - i:Nat):Int) - 3) from by rw [decide_eq_decide]; omega];simp [List.getD,List.getElem?_drop]
theorem qtr {s:List UInt8} {i:Nat} {x:UInt8} (h:(z113 s (i:Int) x).2=true):i+3≤s.length:=by
 unfold z113 at h
 by_cases h2:(i:Int)≤(s.length:Int) - 3
 ·omega
 ·rw [dF h2,Bool.and_false] at h; cases h
theorem qjb:∀ (k:Nat) (r:List UInt8),pctS k r=pctS 0 (r.drop k)
 | 0,r=>by rw [yw]
 | k+1,[]=>by simp [pctS]
 | k+1,c :: r=>by rw [List.drop_succ_cons]; exact qjb k r
theorem qot (x:UInt8) (r:List UInt8):pctS 0 (x :: r)=bif (z113 (x :: r) 0 37).2 then (z113 (x :: r) 0 37).1 :: pctS 2 r else x :: pctS 0 r:=by conv=>lhs; unfold pctS
theorem qts:∀ (m:Nat) (s:List UInt8),s.length≤m→(pctS 0 s).length≤s.length
 | 0,[],_=>by simp [pctS]
 | m+1,[],_=>by simp [pctS]
 | m+1,c :: r,h=>by
  rw [yg] at h;rw [qot,qjb 2];have h1:=qts m (r.drop 2) (by rw [yK]; omega);have h2:=qts m r (by omega);rw [yK] at h1;cases (z113 (c :: r) 0 37).2 with
  | true=>simp only [yc,yg]; omega
  | false=>simp only [yd,yg]; omega
theorem qtt (s:List UInt8):(z68 s).length≤s.length:=qts s.length s (yv _)
theorem qAH:∀ (c0:UInt8) (x1:Bool) (x2:List UInt8),(qtg c0 x1 x2=true)→∃ n,qBg n c0 x1 x2=qyK (z94 c0 x1 x2):=fun c b out h=>⟨0,by
 have h:=of_decide_eq_true h;unfold qBg;rw [dT (show out.length+([c]:List UInt8).length≤room by unfold room; simp; omega)];rfl⟩
theorem qjc (s:List UInt8) (hl:s.length≤1048576) (N:Nat):∀ (n i:Nat) (out:List UInt8),i≤s.length→s.length - i < n→out.length+(s.length - i)≤2097152 →
 qbO (qbD N) n s (i:Int) out=qcp (out++pctS 0 (s.drop i))
 | 0,i,out,hi,hn,_=>by omega
 | n+1,i,out,hi,hn,ho=>by
  show qcD _ _ n _ _ _=_;unfold qcD
  by_cases hlt:i < s.length
  ·have hd:=qz (d:=(0:UInt8)) hlt;have ht:=qtq s i 37 hlt;have hok:qnp s (i:Int) 37=true:=qn hl;have hok1:∀ c b,qtg c b out=true:=fun _ _=>dT (by omega);rw [hd,qot,← hd,← ht];simp (disch:=omega) only [dT,yc,yi,y4,tn,qv,hok,hok1];cases e:(z113 s (i:Int) 37).2 with
   | false =>
    simp only [Bool.not_false,yc,yd];have ih:=qjc s hl N n (i+1) (out++[s.getD i 0]) (by omega) (by omega) (by rw [yn]; simp; omega);rw [show z94 (s.getD i 0) false out=out++[s.getD i 0] from rfl,ih,yl];rfl
   | true =>
    have h3:=qtr e;simp only [Bool.not_true,yc,yd];have ih:=qjc s hl N n (i+3) (out++[(z113 s (i:Int) 37).1]) (by omega) (by omega) (by rw [yn]; simp; omega);rw [show z94 (z113 s (i:Int) 37).1 true out=out++[(z113 s (i:Int) 37).1] from rfl,qdP (by omega : -1000000001≤(i:Int)+2∧(i:Int)+2≤1000000001),show (i:Int)+2+1=((i+3:Nat):Int) from by omega,qdP (by omega),ih,yl,qjb 2,List.drop_drop];rw [show i+1+2=i+3 by omega];rfl
  ·have e1:s.drop i=[]:=yA (by omega);rw [dF (by omega),e1,yd];show qcp out=qcp (out++[]);rw [yG]
theorem qqm:∀ (s0:List UInt8) (f1:List UInt8),(qcB s0 f1=true)→∃ n,qjk n s0 f1=qcp (qAj s0 f1):=fun s out h=>⟨s.length+1,by
 unfold qcB at h;rw [yf,ym] at h;have hl:=qm h.1;exact qjc s hl _ (s.length+1) 0 out (by omega) (by omega) (by omega)⟩
theorem qAI:∀ (s0:List UInt8),(qxr s0=true)→∃ n,qBi n s0=qyP (z68 s0):=fun s h=>⟨0,by
 unfold qBi;have h':lenOk s=true:=h;rw [show qcB s []=true from by unfold qcB; rw [h']; rfl];rfl⟩
theorem qAJ:∀ (p0:qd),(qho p0=true)→∃ n,qBj n p0=qoK (z49 p0):=fun p h=>⟨0,by
 unfold qBj;rw [show qxr p.2.2.2.1=true from h];show _=qoK (qca p);unfold qca;cases p.2.2.1 <;> rfl⟩
theorem qjd (p:qd):(qca p).length≤p.2.2.2.1.length:=by
 unfold qca;cases p.2.2.1 with
 | true=>exact qtt _
 | false=>exact yv _
theorem qtu (v:List UInt8):(z46 v).1.length≤v.length∧(z46 v).2.1.length≤v.length:=by
 unfold z46;split
 ·simp
 ·split
  ·simp
  ·simp only [yz,yK]; omega
def valL (l:List qd):Nat:=(l.map fun p=>p.2.2.2.1.length).sum
theorem qau (p:qd) (l:List qd):valL (p :: l)=p.2.2.2.1.length+valL l:=by simp [valL]
theorem qtv {p:qd}:∀ {l:List qd},p∈l→p.2.2.2.1.length≤valL l
 | q :: l,h=>by
  rw [qau];rcases List.mem_cons.1 h with rfl | h
  ·omega
  ·have:=qtv h; omega
abbrev par0:qd:=([],(0,(false,([],()))))
theorem qou (ls:List qd) (hl:ls.length≤1048576) (hv:valL ls≤1048576) (k0:qd→Int→List UInt8→Option AV) (f:qd) (cs:Int):∀ (d i n:Nat) (out:List UInt8),i+d=ls.length→d < n→out.length+valL (ls.drop i)≤2097152 →
 qcq k0 n f cs out ls ((ls.length:Nat):Int) (i:Int)=k0 f cs (out++(ls.drop i).flatMap qca)
 | d,i,0,out,hi,hn,_=>by omega
 | 0,i,n+1,out,hi,hn,_=>by
  show qcI _ _ n _ _ _ _ _ _=_;unfold qcI qbf;have e1:ls.drop i=[]:=yA (by omega);rw [dF (by omega),e1,yd,List.flatMap_nil,yG]
 | d+1,i,n+1,out,hi,hn,ho=>by
  show qcI _ _ n _ _ _ _ _ _=_;unfold qcI qbf;have hlt:i < ls.length:=by omega
  have hd:=qz (d:=par0) hlt;have hle:=qjd (ls.getD i par0);have hm:(ls.getD i par0).2.2.2.1.length≤valL ls:=qtv (by rw [qbV hlt]; exact List.getElem_mem hlt);rw [hd,qau] at ho;have ih:=qou ls hl hv k0 f cs d (i+1) n (out++qca (ls.getD i par0)) (by omega) (by omega) (by rw [yn]; omega);have hok:qho (ls.getD i par0)=true:=qn (by omega);rw [hd,List.flatMap_cons,← yl];simp (disch:=omega) only [dT,yc,yi,y4,tn,qv,hok];rw [show z49 (ls.getD i par0)=qca (ls.getD i par0) from rfl,dT (show out.length+(qca (ls.getD i par0)).length≤room by unfold room; omega),yc];exact ih
theorem qAK:∀ (l0:List qd),(qqj l0=true)→∃ n,qxF n l0=qkP (z30 l0):=fun l h=>⟨l.length+1,by
 unfold qqj at h;simp only [yf,ym] at h;obtain ⟨⟨h1,h2⟩,h3⟩:=h;cases l with
 | nil=>exact absurd h2 (by decide)
 | cons p r =>
  obtain ⟨pn,num,ext,v,u⟩:=p;have h3':v.length+valL r≤1048576:=by have:valL ((pn,(num,(ext,(v,u)))) :: r)≤1048576:=h3; rw [qau] at this; exact this
  have hr1:r.length≤1048576:=by unfold psOk at h1; simp only [yf,ym,yg] at h1; omega
  have hh:=qtu v;have hL:∀ (f:qd) (cs:Int) (s:List UInt8),s.length≤v.length→qcq (qai (((pn,(num,(ext,(v,u)))) :: r:List qd).length+1)) (((pn,(num,(ext,(v,u)))) :: r:List qd).length+1) f cs s r ((r.length:Nat):Int) 0=qai (((pn,(num,(ext,(v,u)))) :: r:List qd).length+1) f cs (s++r.flatMap qca):=fun f cs s hs=>by
   have:=qou r hr1 (by omega) (qai (((pn,(num,(ext,(v,u)))) :: r:List qd).length+1)) f cs r.length 0 (((pn,(num,(ext,(v,u)))) :: r:List qd).length+1) s (by omega) (by simp; omega) (by rw [yw]; omega);rw [yw] at this;exact this
  have hf:∀ (q:List qd),(q.flatMap qca).length≤valL q:=fun q=>by
   induction q with
   | nil=>simp [valL]
   | cons x q ih=>have:=qjd x; rw [List.flatMap_cons,yn,qau]; omega
  have hfr:=hf r;have hk:∀ (f:qd) (cs:Int) (s:List UInt8),s.length≤v.length→f.2.2.1=true→qai (((pn,(num,(ext,(v,u)))) :: r:List qd).length+1) f cs (s++r.flatMap qca)=qkP (z50 cs (s++r.flatMap qca)):=fun f cs s hs he=>by
   unfold qai;rw [he,show qvI cs (s++r.flatMap qca)=true from qn (by rw [yn]; omega)];rfl
  unfold qxF qcJ qaH qaa qN;rw [dT (show (0:Int) < ((((pn,(num,(ext,(v,u)))) :: r:List qd).length:Nat):Int) by simp only [yg]; omega),dT (show (1:Int)≤((((pn,(num,(ext,(v,u)))) :: r:List qd).length:Nat):Int) by simp only [yg]; omega),dT (show (0:Int)≤0 by omega),dT (show (0:Int)≤1 by omega),dT (Int.le_refl ((((pn,(num,(ext,(v,u)))) :: r:List qd).length:Nat):Int))];rw [show (List.drop (Int.toNat 1) (List.take (Int.toNat ((((pn,(num,(ext,(v,u)))) :: r:List qd).length:Nat):Int)) ((pn,(num,(ext,(v,u)))) :: r)))=r from by rw [tn,List.take_length]; rfl];rw [show (List.getD ((pn,(num,(ext,(v,u)))) :: r) (Int.toNat 0) (([]:List UInt8),((0:Int),(false,(([]:List UInt8),())))))=(pn,(num,(ext,(v,u)))) from rfl];rw [show qxs v=true from qn (by omega),show qvL (z46 v).1=true from qn (by omega)];simp only [yi,yc];cases ext with
  | false =>
   simp only [yd];rw [show qho (pn,(num,(false,(v,u))))=true from qn (by show v.length≤_; omega),show qlX (z49 (pn,(num,(false,(v,u)))))=true from qn (by show v.length≤_; omega)];simp only [yc];rw [show z48 (z49 (pn,(num,(false,(v,u)))))=v from rfl,hL _ _ _ (yv _)];unfold qai;rw [show qpB (v++r.flatMap qca)=true from qn (by rw [yn]; omega)];rfl
  | true =>
   have hp:=qtt (z46 v).2.1;simp only [yc];rw [show qho (pn,(num,(true,((z46 v).2.1,u))))=true from qn (by show (z46 v).2.1.length≤_; omega),show qlX (z49 (pn,(num,(true,((z46 v).2.1,u)))))=true from qn (by show (z68 (z46 v).2.1).length≤_; omega)];simp only [yc];rw [show z48 (z49 (pn,(num,(true,((z46 v).2.1,u)))))=z68 (z46 v).2.1 from rfl];rw [hL _ _ _ (by omega),hL _ _ _ (by omega),hk _ _ _ (by omega) rfl,hk _ _ _ (by omega) rfl];show _=qkP (z50 (csP (pn,(num,(true,(v,u))))) (z68 (z46 v).2.1++r.flatMap qca));unfold csP;simp only [y4];cases (z46 v).2.2 with
   | false=>rfl
   | true =>
    cases (z47 (z46 v).1).2==0 <;> rfl⟩
end Go.Av
