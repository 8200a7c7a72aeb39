import Derived.Test.YtcbimkaeoojceaaGreatDoorPjP2
namespace Go.Av
set_option linter.unusedSimpArgs false
set_option linter.unusedVariables false
theorem qyS (s:LU) (i:Nat) (x:UInt8) (h:i < s.length):z113 s (i:Int) x=z113 (s.drop i) 0 x:=by
 unfold z113 qwQ;rw [yK,tn,show Int.toNat 0=0 from rfl,dT (by omega:(0:Int)≤(i:Int)),dT (by omega:(0:Int)≤0)];rw [show decide ((i:Int)≤(s.length:Int) - 3)=decide ((0:Int)≤((s.length - i:Nat):Int) - 3) from by rw [decide_eq_decide]; omega];simp [List.getD,List.getElem?_drop]
theorem qyT {s:LU} {i:Nat} {x:UInt8} (h:(z113 s (i:Int) x).2=true):i+3≤s.length:=by
 unfold z113 at h
 by_cases h2:(i:Int)≤(s.length:Int) - 3
 ·omega
 ·rw [dF h2,Bool.and_false] at h; cases h
theorem qhr:∀ (k:Nat) (r:LU),pctS k r=pctS 0 (r.drop k)
 | 0,r=>by rw [yw]
 | k+1,[]=>by simp [pctS]
 | k+1,c :: r=>by rw [List.drop_succ_cons]; exact qhr k r
theorem qhs (x:UInt8) (r:LU):pctS 0 (x :: r)=bif (z113 (x :: r) 0 37).2 then (z113 (x :: r) 0 37).1 :: pctS 2 r else x :: pctS 0 r:=by conv=>lhs; unfold pctS
theorem qyU:∀ (m:Nat) (s:LU),s.length≤m→(pctS 0 s).length≤s.length
 | 0,[],_=>by simp [pctS]
 | m+1,[],_=>by simp [pctS]
 | m+1,c :: r,h=>by
  rw [yg] at h;rw [qhs,qhr 2];have h1:=qyU m (r.drop 2) (by rw [yK]; omega);have h2:=qyU m r (by omega);rw [yK] at h1;cases (z113 (c :: r) 0 37).2 with
  | true=>simp only [yc,yg]; omega
  | false=>simp only [yd,yg]; omega
theorem qGq (s:LU):(z68 s).length≤s.length:=qyU s.length s (yv _)
theorem qIQ:∀ (c0:UInt8) (x1:Bool) (x2:LU),(qyE c0 x1 x2=true)→∃ n,qJD n c0 x1 x2=qGF (z94 c0 x1 x2):=fun c b out h=>⟨0,by
 have h:=of_decide_eq_true h;unfold qJD;rw [dT (show out.length+([c]:LU).length≤room by unfold room; simp; omega)];rfl⟩
theorem qls (s:LU) (hl:s.length≤1048576) (N:Nat):∀ (n i:Nat) (out:LU),i≤s.length→s.length - i < n→out.length+(s.length - i)≤2097152 →
 qcG (qcs N) n s (i:Int) out=qdi (out++pctS 0 (s.drop i))
 | 0,i,out,hi,hn,_=>by omega
 | n+1,i,out,hi,hn,ho=>by
  show qdB _ _ n _ _ _=_;unfold qdB
  by_cases hlt:i < s.length
  ·have hd:=qy (d:=(0:UInt8)) hlt;have ht:=qyS s i 37 hlt;have hok:qqP s (i:Int) 37=true:=qn hl;have hok1:∀ c b,qyE c b out=true:=fun _ _=>dT (by omega);rw [hd,qhs,← hd,← ht];simp (disch:=omega) only [dT,yc,yi,y6,tn,qq,hok,hok1];cases e:(z113 s (i:Int) 37).2 with
   | false =>
    simp only [Bool.not_false,yc,yd];have ih:=qls s hl N n (i+1) (out++[s.getD i 0]) (by omega) (by omega) (by rw [yn]; simp; omega);rw [show z94 (s.getD i 0) false out=out++[s.getD i 0] from rfl,ih,yl];rfl
   | true =>
    have h3:=qyT e;simp only [Bool.not_true,yc,yd];have ih:=qls s hl N n (i+3) (out++[(z113 s (i:Int) 37).1]) (by omega) (by omega) (by rw [yn]; simp; omega);rw [show z94 (z113 s (i:Int) 37).1 true out=out++[(z113 s (i:Int) 37).1] from rfl,qgC (by omega : -1000000001≤(i:Int)+2∧(i:Int)+2≤1000000001),show (i:Int)+2+1=((i+3:Nat):Int) from by omega,qgC (by omega),ih,yl,qhr 2,List.drop_drop];rw [show i+1+2=i+3 by omega];rfl
  ·have e1:s.drop i=[]:=yA (by omega);rw [dF (by omega),e1,yd];show qdi out=qdi (out++[]);rw [yG]
theorem qva:∀ (s0:LU) (f1:LU),(qdx s0 f1=true)→∃ n,qly n s0 f1=qdi (qIp s0 f1):=fun s out h=>⟨s.length+1,by
 unfold qdx at h;rw [yf,ym] at h;have hl:=qk h.1;exact qls s hl _ (s.length+1) 0 out (by omega) (by omega) (by omega)⟩
theorem qIR:∀ (s0:LU),(qEn s0=true)→∃ n,qJF n s0=qGK (z68 s0):=fun s h=>⟨0,by
 unfold qJF;have h':lenOk s=true:=h;rw [show qdx s []=true from by unfold qdx; rw [h']; rfl];rfl⟩
theorem qIS:∀ (p0:qi),(qjr p0=true)→∃ n,qJG n p0=qsS (z49 p0):=fun p h=>⟨0,by
 unfold qJG;rw [show qEn p.2.2.2.1=true from h];show _=qsS (qcr p);unfold qcr;cases p.2.2.1 <;> rfl⟩
theorem qsA (p:qi):(qcr p).length≤p.2.2.2.1.length:=by
 unfold qcr;cases p.2.2.1 with
 | true=>exact qGq _
 | false=>exact yv _
theorem qIT (v:LU):(z46 v).1.length≤v.length∧(z46 v).2.1.length≤v.length:=by
 unfold z46;split
 ·simp
 ·split
  ·simp
  ·simp only [yz,yK]; omega
def valL (l:List qi):Nat:=(l.map fun p=>p.2.2.2.1.length).sum
theorem qeW (p:qi) (l:List qi):valL (p :: l)=p.2.2.2.1.length+valL l:=by simp [valL]
theorem qGr {p:qi}:∀ {l:List qi},p∈l→p.2.2.2.1.length≤valL l
 | q :: l,h=>by
  rw [qeW];rcases List.mem_cons.1 h with rfl | h
  ·omega
  ·have:=qGr h; omega
abbrev par0:qi:=([],(0,(false,([],()))))
theorem qsB (ls:List qi) (hl:ls.length≤1048576) (hv:valL ls≤1048576) (k0:qi→Int→LU→OA) (f:qi) (cs:Int):∀ (d i n:Nat) (out:LU),i+d=ls.length→d < n→out.length+valL (ls.drop i)≤2097152 →
 qdj k0 n f cs out ls ((ls.length:Nat):Int) (i:Int)=k0 f cs (out++(ls.drop i).flatMap qcr)
 | d,i,0,out,hi,hn,_=>by omega
 | 0,i,n+1,out,hi,hn,_=>by
  show qdG _ _ n _ _ _ _ _ _=_;unfold qdG qbN;have e1:ls.drop i=[]:=yA (by omega);rw [dF (by omega),e1,yd,List.flatMap_nil,yG]
 | d+1,i,n+1,out,hi,hn,ho=>by
  show qdG _ _ n _ _ _ _ _ _=_;unfold qdG qbN;have hlt:i < ls.length:=by omega
  have hd:=qy (d:=par0) hlt;have hle:=qsA (ls.getD i par0);have hm:(ls.getD i par0).2.2.2.1.length≤valL ls:=qGr (by rw [qeU hlt]; exact List.getElem_mem hlt);rw [hd,qeW] at ho;have ih:=qsB ls hl hv k0 f cs d (i+1) n (out++qcr (ls.getD i par0)) (by omega) (by omega) (by rw [yn]; omega);have hok:qjr (ls.getD i par0)=true:=qn (by omega);rw [hd,List.flatMap_cons,← yl];simp (disch:=omega) only [dT,yc,yi,y6,tn,qq,hok];rw [show z49 (ls.getD i par0)=qcr (ls.getD i par0) from rfl,dT (show out.length+(qcr (ls.getD i par0)).length≤room by unfold room; omega),yc];exact ih
theorem qIU:∀ (l0:List qi),(quX l0=true)→∃ n,qEQ n l0=qnH (z30 l0):=fun l h=>⟨l.length+1,by
 unfold quX at h;simp only [yf,ym] at h;obtain ⟨⟨h1,h2⟩,h3⟩:=h;cases l with
 | nil=>exact absurd h2 (by decide)
 | cons p r =>
  obtain ⟨pn,num,ext,v,u⟩:=p;have h3':v.length+valL r≤1048576:=by have:valL ((pn,(num,(ext,(v,u)))) :: r)≤1048576:=h3; rw [qeW] at this; exact this
  have hr1:r.length≤1048576:=by unfold psOk at h1; simp only [yf,ym,yg] at h1; omega
  have hh:=qIT v;have hL:∀ (f:qi) (cs:Int) (s:LU),s.length≤v.length→qdj (qaA (((pn,(num,(ext,(v,u)))) :: r:List qi).length+1)) (((pn,(num,(ext,(v,u)))) :: r:List qi).length+1) f cs s r ((r.length:Nat):Int) 0=qaA (((pn,(num,(ext,(v,u)))) :: r:List qi).length+1) f cs (s++r.flatMap qcr):=fun f cs s hs=>by
   have:=qsB r hr1 (by omega) (qaA (((pn,(num,(ext,(v,u)))) :: r:List qi).length+1)) f cs r.length 0 (((pn,(num,(ext,(v,u)))) :: r:List qi).length+1) s (by omega) (by simp; omega) (by rw [yw]; omega);rw [yw] at this;exact this
  have hf:∀ (q:List qi),(q.flatMap qcr).length≤valL q:=fun q=>by
   induction q with
   | nil=>simp [valL]
   | cons x q ih=>have:=qsA x; rw [List.flatMap_cons,yn,qeW]; omega
  have hfr:=hf r;have hk:∀ (f:qi) (cs:Int) (s:LU),s.length≤v.length→f.2.2.1=true→qaA (((pn,(num,(ext,(v,u)))) :: r:List qi).length+1) f cs (s++r.flatMap qcr)=qnH (z50 cs (s++r.flatMap qcr)):=fun f cs s hs he=>by
   unfold qaA;rw [he,show qBY cs (s++r.flatMap qcr)=true from qn (by rw [yn]; omega)];rfl
  unfold qEQ qdH qbk qaq qaa;rw [dT (show (0:Int) < ((((pn,(num,(ext,(v,u)))) :: r:List qi).length:Nat):Int) by simp only [yg]; omega),dT (show (1:Int)≤((((pn,(num,(ext,(v,u)))) :: r:List qi).length:Nat):Int) by simp only [yg]; omega),dT (show (0:Int)≤0 by omega),dT (show (0:Int)≤1 by omega),dT (Int.le_refl ((((pn,(num,(ext,(v,u)))) :: r:List qi).length:Nat):Int))];rw [show (List.drop (Int.toNat 1) (List.take (Int.toNat ((((pn,(num,(ext,(v,u)))) :: r:List qi).length:Nat):Int)) ((pn,(num,(ext,(v,u)))) :: r)))=r from by rw [tn,List.take_length]; rfl];rw [show (List.getD ((pn,(num,(ext,(v,u)))) :: r) (Int.toNat 0) (([]:LU),((0:Int),(false,(([]:LU),())))))=(pn,(num,(ext,(v,u)))) from rfl];rw [show qEo v=true from qn (by omega),show qCb (z46 v).1=true from qn (by omega)];simp only [yi,yc];cases ext with
  | false =>
   simp only [yd];rw [show qjr (pn,(num,(false,(v,u))))=true from qn (by show v.length≤_; omega),show qpi (z49 (pn,(num,(false,(v,u)))))=true from qn (by show v.length≤_; omega)];simp only [yc];rw [show z48 (z49 (pn,(num,(false,(v,u)))))=v from rfl,hL _ _ _ (yv _)];unfold qaA;rw [show qua (v++r.flatMap qcr)=true from qn (by rw [yn]; omega)];rfl
  | true =>
   have hp:=qGq (z46 v).2.1;simp only [yc];rw [show qjr (pn,(num,(true,((z46 v).2.1,u))))=true from qn (by show (z46 v).2.1.length≤_; omega),show qpi (z49 (pn,(num,(true,((z46 v).2.1,u)))))=true from qn (by show (z68 (z46 v).2.1).length≤_; omega)];simp only [yc];rw [show z48 (z49 (pn,(num,(true,((z46 v).2.1,u)))))=z68 (z46 v).2.1 from rfl];rw [hL _ _ _ (by omega),hL _ _ _ (by omega),hk _ _ _ (by omega) rfl,hk _ _ _ (by omega) rfl];show _=qnH (z50 (csP (pn,(num,(true,(v,u))))) (z68 (z46 v).2.1++r.flatMap qcr));unfold csP;simp only [y6];cases (z46 v).2.2 with
   | false=>rfl
   | true =>
    cases (z47 (z46 v).1).2==0 <;> rfl⟩
end Go.Av
