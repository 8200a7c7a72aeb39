import Derived.Test.YtnfehbljinflbaaGreatDoorRRRRErT
namespace Go.Av
theorem qCA (s:LI):z8 s s=true:=by unfold z8; exact dT rfl
theorem qJV (s:LU):(unf s).length≤s.length:=qil s 0
theorem qCB {s:LU} (h:lenOk s=true):lenOk (unf s)=true:=qi (yL (qJV s) (qd h))
theorem qLX:∀ (x0:Int×(LU×Unit)) (t1:LI) (x2:LI),(qCw x0 t1 x2=true)→∃ n,qMi n x0 t1 x2=qJW (z21 x0 t1 x2):=fun p t x h=>⟨0,by
 have h:x.length+t.length≤4194304:=of_decide_eq_true h;unfold qMi;rw [dT (by unfold room; omega)];rfl⟩
theorem qLY:∀ (x0:Int×(LU×Unit)) (t1:LI) (x2:List LI),(qCx x0 t1 x2=true)→∃ n,qMj n x0 t1 x2=qJX (z28 x0 t1 x2):=fun p t x h=>⟨0,by
 have h:x.length≤4194304:=of_decide_eq_true h;unfold qMj;rw [dT (by unfold room; simp; omega)];rfl⟩
theorem qLZ:∀ (w0:LU) (x1:Int),(qsL w0 x1=true)→∃ n,qMB n w0 x1=qDh (z32 w0 x1):=fun w x h=>⟨0,by
 unfold qsL at h;simp only [yf,ym] at h;obtain ⟨h1,h2,h3⟩:=h;unfold qMB z32;rw [show qFJ w=true from h1];obtain ⟨k,rfl⟩:∃ k:Nat,x=k:=⟨x.toNat,by omega⟩;rw [qf (by omega)];cases z33 w <;> rfl⟩
theorem qMa:∀ (w0:LU) (x1:LI),(qsM w0 x1=true)→∃ n,qMw n w0 x1=qKh (z30 w0 x1):=fun w x h=>⟨0,by
 unfold qsM at h;simp only [yf,ym] at h;unfold qMw z30;rw [show qFL w=true from h.1,dT (by unfold room; simp; omega)];rfl⟩
theorem qys:∀ (p0:Int×(LU×Unit)) (x1:LI) (x2:Int),(qcS p0 x1 x2=true)→∃ n,qon n p0 x1 x2=qkd (qlb p0 x1 x2):=fun p t x h=>⟨0,by
 unfold qcS at h;unfold qon qlb;cases hp:p.1==3 with
 | false=>rfl
 | true=>rw [hp] at h; rw [show qsL p.2.1 x=true from h]; rfl⟩
theorem qyt:∀ (p0:Int×(LU×Unit)) (x1:LI) (x2:LI),(qcT p0 x1 x2=true)→∃ n,qoo n p0 x1 x2=qke (qlc p0 x1 x2):=fun p t x h=>⟨0,by
 unfold qcT at h;unfold qoo qlc;cases hp:p.1==3 with
 | false=>rfl
 | true=>rw [hp] at h; rw [show qsM p.2.1 x=true from h]; rfl⟩
theorem qhz:∀ (n:Nat) (s:LU),(qcl n s).length≤n
 | 0,_=>yv _
 | n+1,[]=>Nat.zero_le _
 | n+1,c :: r=>by
  have:=qhz n ((c :: r).drop (alike (c :: r)));show ((kindB ((c :: r).take (alike (c :: r))),((c :: r).take (alike (c :: r)),())) :: qcl n ((c :: r).drop (alike (c :: r)))).length≤n+1;rw [yg];omega
theorem qlB (l:List qz):∀ (d i:Nat),(showF l d i).length≤d
 | 0,_=>yv _
 | d+1,i=>by
  have:=qlB l d (i+1);show (bif qaN l i then showF l d (i+1) else l.getD i (0,([],())) :: showF l d (i+1)).length≤d+1;cases qaN l i with
  | true=>show (showF l d (i+1)).length≤d+1; omega
  | false=>show (l.getD i (0,([],())) :: showF l d (i+1)).length≤d+1; rw [yg]; omega
theorem qbu (s:LU):(z37 s).length≤s.length:=yL (qlB _ _ _) (qhz _ _)
theorem qSE (l:List qz):∀ p∈l,p.2.1.length≤(l.map fun p=>p.2.1.length).sum:=by
 induction l with
 | nil=>intro p hp; cases hp
 | cons q l ih =>
  intro p hp;rw [yI,List.sum_cons];rcases List.mem_cons.1 hp with rfl | hp
  ·omega
  ·have:=ih p hp; omega
theorem qec (s:LU):∀ p∈z37 s,p.2.1.length≤s.length:=fun p hp=>yL (qSE _ p hp) (qvu s)
theorem qfG {σ:Type} {f:qz→LI→σ→σ} {k0:σ→Option AV} {L:Nat→List qz→Int→Int→σ→Option AV} {l:List qz} {P:Nat→σ→Prop}
 (hstep:∀ (n i:Nat) (x:σ) (hi:i < l.length),P i x→L (n+1) l ((l.length:Nat):Int) (i:Int) x=L n l ((l.length:Nat):Int) ((i+1:Nat):Int) (f l[i] (qbl l[i]) x))
 (hend:∀ (n:Nat) (x:σ),L (n+1) l ((l.length:Nat):Int) ((l.length:Nat):Int) x=k0 x)
 (hP:∀ (i:Nat) (x:σ) (hi:i < l.length),P i x→P (i+1) (f l[i] (qbl l[i]) x)) :
 ∀ (d i n:Nat) (x:σ),i+d=l.length→d < n→P i x→L n l ((l.length:Nat):Int) (i:Int) x=k0 ((l.drop i).foldl (fun a p=>f p (qbl p) a) x)
 | d,i,0,x,hi,hn,hp=>by omega
 | 0,i,n+1,x,hi,hn,hp=>by
  obtain rfl:i=l.length:=by omega
  rw [hend,List.drop_length];rfl
 | d+1,i,n+1,x,hi,hn,hp=>by
  have hlt:i < l.length:=by omega
  rw [hstep n i x hlt hp,qfG hstep hend hP d (i+1) n _ (by omega) (by omega) (hP i x hlt hp),List.drop_eq_getElem_cons hlt,List.foldl_cons]
theorem qdC {l:List qz} {i:Nat} (h:i < l.length):l.getD i ((0:Int),(([]:LU),()))=l[i]:=by
 rw [yY,yO h]; rfl
theorem qyu:∀ (s0:LU) (f1:LI),(qdW s0 f1=true)→∃ n,qix n s0 f1=qkf (qyo s0 f1):=fun s x h=>⟨1048577,by
 unfold qdW at h;rw [yf,ym] at h;have hs:=qd h.1;have hc:=qbu s;have hsum:=qvu s;unfold qix;rw [show qll s=true from h.1];have hm:=qec s;unfold qyo eachF;generalize z37 s=l at hc hsum hm;refine qfG (f:=z21) (k0:=qkf) (L:=qdb (qcH 1048577)) (P:=fun i x=>x.length+((l.drop i).map fun p=>p.2.1.length).sum≤1048576) (fun n i x hi hp=>?_) (fun n x=>?_) (fun i x hi hp=>?_) l.length 0 1048577 x (yE _) (by omega) (by rw [yw]; omega)
 ·have hl:=hm _ (List.getElem_mem hi);have hr:=qjI l[i];show qby _ _ n _ _ _ _=_;unfold qby qaH qt;rw [tn,qdC hi,dT (show (i:Int) < ((l.length:Nat):Int) by omega),dT (show (0:Int)≤(i:Int) by omega),qar,qar,qf (by omega),show qhT l[i].2.1=true from qi (by omega),show qkZ l[i].2.1=true from qi (by omega)];have hok:qCw l[i] (qbl l[i]) x=true:=dT (by omega);unfold qbl at hok ⊢
  by_cases hk:l[i].1=3
  ·rw [bneF hk,show (l[i].1==3)=true by simp [hk]] at *
   simp only [yc,yd,yi] at hok ⊢;rw [hok];rfl
  ·rw [bneT hk,show (l[i].1==3)=false by simp [hk]] at *
   simp only [yc,yd,yi] at hok ⊢;rw [hok];rfl
 ·show qby _ _ n _ _ _ _=_;unfold qby qaH qt;rw [dF (by omega)];rfl
 ·rw [List.drop_eq_getElem_cons hi,yI,List.sum_cons] at hp;have:=qjI l[i];show (x++qbl l[i]).length+_≤_;rw [yn];omega⟩
theorem qyv:∀ (s0:LU) (f1:List LI),(qdX s0 f1=true)→∃ n,qiy n s0 f1=qkg (qyp s0 f1):=fun s x h=>⟨1048577,by
 unfold qdX at h;rw [yf,ym] at h;have hs:=qd h.1;have hc:=qbu s;unfold qiy;rw [show qll s=true from h.1];have hm:=qec s;unfold qyp eachF;generalize z37 s=l at hc hm;refine qfG (f:=z28) (k0:=qkg) (L:=qdc (qcI 1048577)) (P:=fun i x=>x.length≤i) (fun n i x hi hp=>?_) (fun n x=>?_) (fun i x hi hp=>?_) l.length 0 1048577 x (yE _) (by omega) (by omega)
 ·have hl:=hm _ (List.getElem_mem hi);show qbz _ _ n _ _ _ _=_;unfold qbz qaI qu;rw [tn,qdC hi,dT (show (i:Int) < ((l.length:Nat):Int) by omega),dT (show (0:Int)≤(i:Int) by omega),qar,qar,qf (by omega),show qhT l[i].2.1=true from qi (by omega),show qkZ l[i].2.1=true from qi (by omega)];have hok:∀ t,qCx l[i] t x=true:=fun _=>dT (by omega);unfold qbl
  by_cases hk:l[i].1=3
  ·rw [bneF hk,show (l[i].1==3)=true by simp [hk]];simp only [yc,yd,yi,hok]
  ·rw [bneT hk,show (l[i].1==3)=false by simp [hk]];simp only [yc,yd,yi,hok]
 ·show qbz _ _ n _ _ _ _=_;unfold qbz qaI qu;rw [dF (by omega)];rfl
 ·show (x++[qbl l[i]]).length≤_;rw [yn,yg,List.length_nil];omega⟩
theorem qyw:∀ (s0:LU) (f1:Int),(qdY s0 f1=true)→∃ n,qiz n s0 f1=qkh (qyq s0 f1):=fun s x h=>⟨1048577,by
 unfold qdY at h;rw [yf,ym] at h;have hs:=qd h.1;have hc:=qbu s;unfold qiz;rw [show qll s=true from h.1];have hm:=qec s;unfold qyq eachF;generalize z37 s=l at hc hm;refine qfG (f:=qlb) (k0:=qkh) (L:=qdd (qcJ 1048577)) (P:=fun i x=>0≤x∧x≤(i:Int)) (fun n i x hi hp=>?_) (fun n x=>?_) (fun i x hi hp=>?_) l.length 0 1048577 x (yE _) (by omega) (by omega)
 ·have hl:=hm _ (List.getElem_mem hi);show qbA _ _ n _ _ _ _=_;unfold qbA qaJ qv;rw [tn,qdC hi,dT (show (i:Int) < ((l.length:Nat):Int) by omega),dT (show (0:Int)≤(i:Int) by omega),qar,qar,qf (by omega),show qhT l[i].2.1=true from qi (by omega),show qkZ l[i].2.1=true from qi (by omega)];have hok:∀ t,qcS l[i] t x=true:=fun _=>by
   unfold qcS qsL;rw [qi (show l[i].2.1.length≤1048576 by omega),dT (show (0:Int)≤x by omega),dT (show x≤4194304 by omega)];cases l[i].1==3 <;> rfl
  unfold qbl
  by_cases hk:l[i].1=3
  ·rw [bneF hk,show (l[i].1==3)=true by simp [hk]];simp only [yc,yd,yi,hok]
  ·rw [bneT hk,show (l[i].1==3)=false by simp [hk]];simp only [yc,yd,yi,hok]
 ·show qbA _ _ n _ _ _ _=_;unfold qbA qaJ qv;rw [dF (by omega)];rfl
 ·unfold qlb z32;cases l[i].1==3 with
  | false=>show 0≤x∧x≤_; omega
  | true =>
   cases z33 l[i].2.1 with
   | true=>show 0≤x∧x≤_; omega
   | false=>show 0≤x+1∧x+1≤_; omega⟩
theorem qyx:∀ (s0:LU) (f1:LI),(qdZ s0 f1=true)→∃ n,qiA n s0 f1=qki (qyr s0 f1):=fun s x h=>⟨1048577,by
 unfold qdZ at h;rw [yf,ym] at h;have hs:=qd h.1;have hc:=qbu s;unfold qiA;rw [show qll s=true from h.1];have hm:=qec s;unfold qyr eachF;generalize z37 s=l at hc hm;refine qfG (f:=qlc) (k0:=qki) (L:=qde (qcK 1048577)) (P:=fun i x=>x.length≤i) (fun n i x hi hp=>?_) (fun n x=>?_) (fun i x hi hp=>?_) l.length 0 1048577 x (yE _) (by omega) (by omega)
 ·have hl:=hm _ (List.getElem_mem hi);show qbB _ _ n _ _ _ _=_;unfold qbB qaK qw;rw [tn,qdC hi,dT (show (i:Int) < ((l.length:Nat):Int) by omega),dT (show (0:Int)≤(i:Int) by omega),qar,qar,qf (by omega),show qhT l[i].2.1=true from qi (by omega),show qkZ l[i].2.1=true from qi (by omega)];have hok:∀ t,qcT l[i] t x=true:=fun _=>by
   unfold qcT qsM;rw [qi (show l[i].2.1.length≤1048576 by omega),dT (show x.length≤4194304 by omega)];cases l[i].1==3 <;> rfl
  unfold qbl
  by_cases hk:l[i].1=3
  ·rw [bneF hk,show (l[i].1==3)=true by simp [hk]];simp only [yc,yd,yi,hok]
  ·rw [bneT hk,show (l[i].1==3)=false by simp [hk]];simp only [yc,yd,yi,hok]
 ·show qbB _ _ n _ _ _ _=_;unfold qbB qaK qw;rw [dF (by omega)];rfl
 ·unfold qlc z30;cases l[i].1==3 with
  | false=>show x.length≤_; omega
  | true =>
   show (x++[z31 l[i].2.1]).length≤_;rw [yn,yg,List.length_nil];omega⟩
theorem qMb (l:List qz):∀ x:LI,l.foldl (fun a p=>z21 p (qbl p) a) x=x++l.flatMap qbl:=by
 induction l with
 | nil=>intro x; simp
 | cons p l ih =>
  intro x;rw [List.foldl_cons,ih,List.flatMap_cons,← yl];rfl
theorem qCC (l:List qz):∀ x:List LI,l.foldl (fun a p=>z28 p (qbl p) a) x=x++l.map qbl:=by
 induction l with
 | nil=>intro x; simp
 | cons p l ih =>
  intro x;rw [List.foldl_cons,ih,yI];show x++[qbl p]++_=_;rw [yl];rfl
theorem qMc (l:List qz):∀ x:Int,l.foldl (fun a p=>qlb p (qbl p) a) x=x+oddOf (qaG l):=by
 induction l with
 | nil=>intro x; show x=x+((0:Nat):Int); omega
 | cons p l ih =>
  intro x;rw [List.foldl_cons,ih];unfold qlb z32 qaG oddOf;cases hp:p.1==3 with
  | false =>
   rw [List.filter_cons_of_neg (by simp [hp])];rfl
  | true =>
   rw [List.filter_cons_of_pos (by simp [hp]),yI];cases hs:z33 p.2.1 with
   | true =>
    rw [List.countP_cons_of_neg (by simp [hs])];rfl
   | false =>
    rw [List.countP_cons_of_pos (by simp [hs])];show x+1+_=_;omega
theorem qHR (l:List qz):∀ x:LI,l.foldl (fun a p=>qlc p (qbl p) a) x=x++(qaG l).map z31:=by
 induction l with
 | nil=>intro x; simp [qaG]
 | cons p l ih =>
  intro x;rw [List.foldl_cons,ih];unfold qlc z30 qaG;cases hp:p.1==3 with
  | false =>
   rw [List.filter_cons_of_neg (by simp [hp])];rfl
  | true =>
   rw [List.filter_cons_of_pos (by simp [hp]),yI,yI];show x++[z31 p.2.1]++_=_;rw [yl];rfl
theorem qMd:∀ (s0:LU),(qHP s0=true)→∃ n,qMI n s0=qDH (z11 s0):=fun s h=>⟨0,by
 unfold qMI;rw [show qdW s []=true by unfold qdW; rw [show lenOk s=true from h]; rfl];show qDH (qyo s [])=_;congr 1;unfold qyo eachF;rw [qMb];rfl⟩
theorem qSF:∀ (s0:LU),(z9_ok s0=true)→∃ n,z9_sh n s0=qSN (z9 s0):=fun s h=>⟨0,by
 have h:lenOk s=true:=h;unfold z9_sh;rw [show qlm s=true from h,show qHP (z19 s)=true from qCB h];rfl⟩
theorem qMe:∀ (s0:LU),(qCv s0=true)→∃ n,qML n s0=qDJ (z15 s0):=fun s h=>⟨0,by
 have h:lenOk s=true:=h;unfold qML;rw [show qlm s=true from h,show qdX (z19 s) []=true by unfold qdX; rw [show lenOk (z19 s)=true from qCB h]; rfl];show qDJ (qyp (unf s) [])=_;congr 1;unfold qyp eachF;rw [qCC];rfl⟩
theorem qyy:∀ (s0:LU) (f1:Int),(qea s0 f1=true)→∃ n,qor n s0 f1=qqw (qCy s0 f1):=fun s x h=>⟨0,by
 unfold qea at h;rw [yf] at h;unfold qor;rw [show qlm s=true from h.1,show qdY (z19 s) x=true by unfold qdY; rw [show lenOk (z19 s)=true from qCB h.1,h.2]; rfl];rfl⟩
theorem qyz:∀ (s0:LU) (f1:LI),(qeb s0 f1=true)→∃ n,qos n s0 f1=qqx (qCz s0 f1):=fun s x h=>⟨0,by
 unfold qeb at h;rw [yf] at h;unfold qos;rw [show qlm s=true from h.1,show qdZ (z19 s) x=true by unfold qdZ; rw [show lenOk (z19 s)=true from qCB h.1,h.2]; rfl];rfl⟩
theorem qMf:∀ (s0:LU),(qCt s0=true)→∃ n,qMN n s0=qDL (z17 s0):=fun s h=>⟨0,by
 unfold qMN;rw [show qea s 0=true by unfold qea; rw [show lenOk s=true from h]; rfl];show qDL (qCy s 0)=_;congr 1;unfold qCy qyq eachF;rw [qMc,Int.zero_add];rfl⟩
theorem qMg:∀ (s0:LU),(qCu s0=true)→∃ n,qMM n s0=qDK (z16 s0):=fun s h=>⟨0,by
 unfold qMM;rw [show qeb s []=true by unfold qeb; rw [show lenOk s=true from h]; rfl];show qDK (qCz s [])=_;congr 1;unfold qCz qyr eachF;rw [qHR];rfl⟩
end Go.Av
