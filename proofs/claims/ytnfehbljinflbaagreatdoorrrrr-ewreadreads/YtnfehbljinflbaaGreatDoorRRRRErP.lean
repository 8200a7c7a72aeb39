import Derived.Test.YtnfehbljinflbaaGreatDoorRRRRErT
namespace Go.Av
theorem qqp (s:LI):z8 s s=true:=by unfold z8; exact dT rfl
theorem qSH (s:LU):(unf s).length≤s.length:=qfF s 0
theorem qCw {s:LU} (h:lenOk s=true):lenOk (unf s)=true:=qg (yL (qSH s) (qd h))
theorem qLX:∀ (x0:Int×(LU×Unit)) (t1:LI) (x2:LI),(qCs x0 t1 x2=true)→∃ n,qMk n x0 t1 x2=qJT (z21 x0 t1 x2):=fun p t x h=>⟨0,by
 have h:x.length+t.length≤4194304:=of_decide_eq_true h;unfold qMk;rw [dT (by unfold room; omega)];rfl⟩
theorem qLY:∀ (x0:Int×(LU×Unit)) (t1:LI) (x2:List LI),(qCt x0 t1 x2=true)→∃ n,qMl n x0 t1 x2=qJU (z28 x0 t1 x2):=fun p t x h=>⟨0,by
 have h:x.length≤4194304:=of_decide_eq_true h;unfold qMl;rw [dT (by unfold room; simp; omega)];rfl⟩
theorem qLZ:∀ (w0:LU) (x1:Int),(qsJ w0 x1=true)→∃ n,qMD n w0 x1=qDc (z32 w0 x1):=fun w x h=>⟨0,by
 unfold qsJ at h;simp only [yf,ym] at h;obtain ⟨h1,h2,h3⟩:=h;unfold qMD z32;rw [show qFF w=true from h1];obtain ⟨k,rfl⟩:∃ k:Nat,x=k:=⟨x.toNat,by omega⟩;rw [qf (by omega)];cases z33 w <;> rfl⟩
theorem qMa:∀ (w0:LU) (x1:LI),(qsK w0 x1=true)→∃ n,qMy n w0 x1=qKe (z30 w0 x1):=fun w x h=>⟨0,by
 unfold qsK at h;simp only [yf,ym] at h;unfold qMy z30;rw [show qFH w=true from h.1,dT (by unfold room; simp; omega)];rfl⟩
theorem qyr:∀ (p0:Int×(LU×Unit)) (x1:LI) (x2:Int),(qcS p0 x1 x2=true)→∃ n,qok n p0 x1 x2=qkd (qlc p0 x1 x2):=fun p t x h=>⟨0,by
 unfold qcS at h;unfold qok qlc;cases hp:p.1==3 with
 | false=>rfl
 | true=>rw [hp] at h; rw [show qsJ p.2.1 x=true from h]; rfl⟩
theorem qys:∀ (p0:Int×(LU×Unit)) (x1:LI) (x2:LI),(qcT p0 x1 x2=true)→∃ n,qol n p0 x1 x2=qke (qld p0 x1 x2):=fun p t x h=>⟨0,by
 unfold qcT at h;unfold qol qld;cases hp:p.1==3 with
 | false=>rfl
 | true=>rw [hp] at h; rw [show qsK p.2.1 x=true from h]; rfl⟩
theorem qhA:∀ (n:Nat) (s:LU),(qcl n s).length≤n
 | 0,_=>yv _
 | n+1,[]=>Nat.zero_le _
 | n+1,c :: r=>by
  have:=qhA n ((c :: r).drop (alike (c :: r)));show ((kindB ((c :: r).take (alike (c :: r))),((c :: r).take (alike (c :: r)),())) :: qcl n ((c :: r).drop (alike (c :: r)))).length≤n+1;rw [yg];omega
theorem qlB (l:List qz):∀ (d i:Nat),(showF l d i).length≤d
 | 0,_=>yv _
 | d+1,i=>by
  have:=qlB l d (i+1);show (bif qaN l i then showF l d (i+1) else l.getD i (0,([],())) :: showF l d (i+1)).length≤d+1;cases qaN l i with
  | true=>show (showF l d (i+1)).length≤d+1; omega
  | false=>show (l.getD i (0,([],())) :: showF l d (i+1)).length≤d+1; rw [yg]; omega
theorem qbu (s:LU):(z37 s).length≤s.length:=yL (qlB _ _ _) (qhA _ _)
theorem qSI (l:List qz):∀ p∈l,p.2.1.length≤(l.map fun p=>p.2.1.length).sum:=by
 induction l with
 | nil=>intro p hp; cases hp
 | cons q l ih =>
  intro p hp;rw [yI,List.sum_cons];rcases List.mem_cons.1 hp with rfl | hp
  ·omega
  ·have:=ih p hp; omega
theorem qfG (s:LU):∀ p∈z37 s,p.2.1.length≤s.length:=fun p hp=>yL (qSI _ p hp) (qnY s)
theorem qfH {σ:Type} {f:qz→LI→σ→σ} {k0:σ→Option AV} {L:Nat→List qz→Int→Int→σ→Option AV} {l:List qz} {P:Nat→σ→Prop}
 (hstep:∀ (n i:Nat) (x:σ) (hi:i < l.length),P i x→L (n+1) l ((l.length:Nat):Int) (i:Int) x=L n l ((l.length:Nat):Int) ((i+1:Nat):Int) (f l[i] (qaB l[i]) x))
 (hend:∀ (n:Nat) (x:σ),L (n+1) l ((l.length:Nat):Int) ((l.length:Nat):Int) x=k0 x)
 (hP:∀ (i:Nat) (x:σ) (hi:i < l.length),P i x→P (i+1) (f l[i] (qaB l[i]) x)) :
 ∀ (d i n:Nat) (x:σ),i+d=l.length→d < n→P i x→L n l ((l.length:Nat):Int) (i:Int) x=k0 ((l.drop i).foldl (fun a p=>f p (qaB p) a) x)
 | d,i,0,x,hi,hn,hp=>by omega
 | 0,i,n+1,x,hi,hn,hp=>by
  obtain rfl:i=l.length:=by omega
  rw [hend,List.drop_length];rfl
 | d+1,i,n+1,x,hi,hn,hp=>by
  have hlt:i < l.length:=by omega
  rw [hstep n i x hlt hp,qfH hstep hend hP d (i+1) n _ (by omega) (by omega) (hP i x hlt hp),List.drop_eq_getElem_cons hlt,List.foldl_cons]
theorem qdC {l:List qz} {i:Nat} (h:i < l.length):l.getD i ((0:Int),(([]:LU),()))=l[i]:=by
 rw [yY,yO h]; rfl
theorem qyt:∀ (s0:LU) (f1:LI),(qdW s0 f1=true)→∃ n,qix n s0 f1=qkf (qyn s0 f1):=fun s x h=>⟨1048577,by
 unfold qdW at h;rw [yf,ym] at h;have hs:=qd h.1;have hc:=qbu s;have hsum:=qnY s;unfold qix;rw [show qll s=true from h.1];have hm:=qfG s;unfold qyn eachF;generalize z37 s=l at hc hsum hm;refine qfH (f:=z21) (k0:=qkf) (L:=qdb (qcH 1048577)) (P:=fun i x=>x.length+((l.drop i).map fun p=>p.2.1.length).sum≤1048576) (fun n i x hi hp=>?_) (fun n x=>?_) (fun i x hi hp=>?_) l.length 0 1048577 x (yE _) (by omega) (by rw [yw]; omega)
 ·have hl:=hm _ (List.getElem_mem hi);have hr:=qjI l[i];show qby _ _ n _ _ _ _=_;unfold qby qaH qt;rw [tn,qdC hi,dT (show (i:Int) < ((l.length:Nat):Int) by omega),dT (show (0:Int)≤(i:Int) by omega),qar,qar,qf (by omega),show qhU l[i].2.1=true from qg (by omega),show qla l[i].2.1=true from qg (by omega)];have hok:qCs l[i] (qaB l[i]) x=true:=dT (by omega);unfold qaB at hok ⊢
  by_cases hk:l[i].1=3
  ·rw [bneF hk,show (l[i].1==3)=true by simp [hk]] at *
   simp only [yc,yd,yi] at hok ⊢;rw [hok];rfl
  ·rw [bneT hk,show (l[i].1==3)=false by simp [hk]] at *
   simp only [yc,yd,yi] at hok ⊢;rw [hok];rfl
 ·show qby _ _ n _ _ _ _=_;unfold qby qaH qt;rw [dF (by omega)];rfl
 ·rw [List.drop_eq_getElem_cons hi,yI,List.sum_cons] at hp;have:=qjI l[i];show (x++qaB l[i]).length+_≤_;rw [yn];omega⟩
theorem qyu:∀ (s0:LU) (f1:List LI),(qdX s0 f1=true)→∃ n,qiy n s0 f1=qkg (qyo s0 f1):=fun s x h=>⟨1048577,by
 unfold qdX at h;rw [yf,ym] at h;have hs:=qd h.1;have hc:=qbu s;unfold qiy;rw [show qll s=true from h.1];have hm:=qfG s;unfold qyo eachF;generalize z37 s=l at hc hm;refine qfH (f:=z28) (k0:=qkg) (L:=qdc (qcI 1048577)) (P:=fun i x=>x.length≤i) (fun n i x hi hp=>?_) (fun n x=>?_) (fun i x hi hp=>?_) l.length 0 1048577 x (yE _) (by omega) (by omega)
 ·have hl:=hm _ (List.getElem_mem hi);show qbz _ _ n _ _ _ _=_;unfold qbz qaI qu;rw [tn,qdC hi,dT (show (i:Int) < ((l.length:Nat):Int) by omega),dT (show (0:Int)≤(i:Int) by omega),qar,qar,qf (by omega),show qhU l[i].2.1=true from qg (by omega),show qla l[i].2.1=true from qg (by omega)];have hok:∀ t,qCt l[i] t x=true:=fun _=>dT (by omega);unfold qaB
  by_cases hk:l[i].1=3
  ·rw [bneF hk,show (l[i].1==3)=true by simp [hk]];simp only [yc,yd,yi,hok]
  ·rw [bneT hk,show (l[i].1==3)=false by simp [hk]];simp only [yc,yd,yi,hok]
 ·show qbz _ _ n _ _ _ _=_;unfold qbz qaI qu;rw [dF (by omega)];rfl
 ·show (x++[qaB l[i]]).length≤_;rw [yn,yg,List.length_nil];omega⟩
theorem qyv:∀ (s0:LU) (f1:Int),(qdY s0 f1=true)→∃ n,qiz n s0 f1=qkh (qyp s0 f1):=fun s x h=>⟨1048577,by
 unfold qdY at h;rw [yf,ym] at h;have hs:=qd h.1;have hc:=qbu s;unfold qiz;rw [show qll s=true from h.1];have hm:=qfG s;unfold qyp eachF;generalize z37 s=l at hc hm;refine qfH (f:=qlc) (k0:=qkh) (L:=qdd (qcJ 1048577)) (P:=fun i x=>0≤x∧x≤(i:Int)) (fun n i x hi hp=>?_) (fun n x=>?_) (fun i x hi hp=>?_) l.length 0 1048577 x (yE _) (by omega) (by omega)
 ·have hl:=hm _ (List.getElem_mem hi);show qbA _ _ n _ _ _ _=_;unfold qbA qaJ qv;rw [tn,qdC hi,dT (show (i:Int) < ((l.length:Nat):Int) by omega),dT (show (0:Int)≤(i:Int) by omega),qar,qar,qf (by omega),show qhU l[i].2.1=true from qg (by omega),show qla l[i].2.1=true from qg (by omega)];have hok:∀ t,qcS l[i] t x=true:=fun _=>by
   unfold qcS qsJ;rw [qg (show l[i].2.1.length≤1048576 by omega),dT (show (0:Int)≤x by omega),dT (show x≤4194304 by omega)];cases l[i].1==3 <;> rfl
  unfold qaB
  by_cases hk:l[i].1=3
  ·rw [bneF hk,show (l[i].1==3)=true by simp [hk]];simp only [yc,yd,yi,hok]
  ·rw [bneT hk,show (l[i].1==3)=false by simp [hk]];simp only [yc,yd,yi,hok]
 ·show qbA _ _ n _ _ _ _=_;unfold qbA qaJ qv;rw [dF (by omega)];rfl
 ·unfold qlc z32;cases l[i].1==3 with
  | false=>show 0≤x∧x≤_; omega
  | true =>
   cases z33 l[i].2.1 with
   | true=>show 0≤x∧x≤_; omega
   | false=>show 0≤x+1∧x+1≤_; omega⟩
theorem qyw:∀ (s0:LU) (f1:LI),(qdZ s0 f1=true)→∃ n,qiA n s0 f1=qki (qyq s0 f1):=fun s x h=>⟨1048577,by
 unfold qdZ at h;rw [yf,ym] at h;have hs:=qd h.1;have hc:=qbu s;unfold qiA;rw [show qll s=true from h.1];have hm:=qfG s;unfold qyq eachF;generalize z37 s=l at hc hm;refine qfH (f:=qld) (k0:=qki) (L:=qde (qcK 1048577)) (P:=fun i x=>x.length≤i) (fun n i x hi hp=>?_) (fun n x=>?_) (fun i x hi hp=>?_) l.length 0 1048577 x (yE _) (by omega) (by omega)
 ·have hl:=hm _ (List.getElem_mem hi);show qbB _ _ n _ _ _ _=_;unfold qbB qaK qw;rw [tn,qdC hi,dT (show (i:Int) < ((l.length:Nat):Int) by omega),dT (show (0:Int)≤(i:Int) by omega),qar,qar,qf (by omega),show qhU l[i].2.1=true from qg (by omega),show qla l[i].2.1=true from qg (by omega)];have hok:∀ t,qcT l[i] t x=true:=fun _=>by
   unfold qcT qsK;rw [qg (show l[i].2.1.length≤1048576 by omega),dT (show x.length≤4194304 by omega)];cases l[i].1==3 <;> rfl
  unfold qaB
  by_cases hk:l[i].1=3
  ·rw [bneF hk,show (l[i].1==3)=true by simp [hk]];simp only [yc,yd,yi,hok]
  ·rw [bneT hk,show (l[i].1==3)=false by simp [hk]];simp only [yc,yd,yi,hok]
 ·show qbB _ _ n _ _ _ _=_;unfold qbB qaK qw;rw [dF (by omega)];rfl
 ·unfold qld z30;cases l[i].1==3 with
  | false=>show x.length≤_; omega
  | true =>
   show (x++[z31 l[i].2.1]).length≤_;rw [yn,yg,List.length_nil];omega⟩
theorem qMb (l:List qz):∀ x:LI,l.foldl (fun a p=>z21 p (qaB p) a) x=x++l.flatMap qaB:=by
 induction l with
 | nil=>intro x; simp
 | cons p l ih =>
  intro x;rw [List.foldl_cons,ih,List.flatMap_cons,← yl];rfl
theorem qCx (l:List qz):∀ x:List LI,l.foldl (fun a p=>z28 p (qaB p) a) x=x++l.map qaB:=by
 induction l with
 | nil=>intro x; simp
 | cons p l ih =>
  intro x;rw [List.foldl_cons,ih,yI];show x++[qaB p]++_=_;rw [yl];rfl
theorem qMc (l:List qz):∀ x:Int,l.foldl (fun a p=>qlc p (qaB p) a) x=x+oddOf (qbe l):=by
 induction l with
 | nil=>intro x; show x=x+((0:Nat):Int); omega
 | cons p l ih =>
  intro x;rw [List.foldl_cons,ih];unfold qlc z32 qbe oddOf;cases hp:p.1==3 with
  | false =>
   rw [List.filter_cons_of_neg (by simp [hp])];rfl
  | true =>
   rw [List.filter_cons_of_pos (by simp [hp]),yI];cases hs:z33 p.2.1 with
   | true =>
    rw [List.countP_cons_of_neg (by simp [hs])];rfl
   | false =>
    rw [List.countP_cons_of_pos (by simp [hs])];show x+1+_=_;omega
theorem qHO (l:List qz):∀ x:LI,l.foldl (fun a p=>qld p (qaB p) a) x=x++(qbe l).map z31:=by
 induction l with
 | nil=>intro x; simp [qbe]
 | cons p l ih =>
  intro x;rw [List.foldl_cons,ih];unfold qld z30 qbe;cases hp:p.1==3 with
  | false =>
   rw [List.filter_cons_of_neg (by simp [hp])];rfl
  | true =>
   rw [List.filter_cons_of_pos (by simp [hp]),yI,yI];show x++[z31 p.2.1]++_=_;rw [yl];rfl
theorem qMd:∀ (s0:LU),(qyl s0=true)→∃ n,qMK n s0=qDC (z11 s0):=fun s h=>⟨0,by
 unfold qMK;rw [show qdW s []=true by unfold qdW; rw [show lenOk s=true from h]; rfl];show qDC (qyn s [])=_;congr 1;unfold qyn eachF;rw [qMb];rfl⟩
theorem qSJ:∀ (s0:LU),(z9_ok s0=true)→∃ n,z9_sh n s0=qSR (z9 s0):=fun s h=>⟨0,by
 have h:lenOk s=true:=h;unfold z9_sh;rw [show qlm s=true from h,show qyl (z19 s)=true from qCw h];rfl⟩
theorem qMe:∀ (s0:LU),(qLW s0=true)→∃ n,qMN n s0=qDE (z15 s0):=fun s h=>⟨0,by
 have h:lenOk s=true:=h;unfold qMN;rw [show qlm s=true from h,show qdX (z19 s) []=true by unfold qdX; rw [show lenOk (z19 s)=true from qCw h]; rfl];show qDE (qyo (unf s) [])=_;congr 1;unfold qyo eachF;rw [qCx];rfl⟩
theorem qyx:∀ (s0:LU) (f1:Int),(qea s0 f1=true)→∃ n,qoo n s0 f1=qqu (qCu s0 f1):=fun s x h=>⟨0,by
 unfold qea at h;rw [yf] at h;unfold qoo;rw [show qlm s=true from h.1,show qdY (z19 s) x=true by unfold qdY; rw [show lenOk (z19 s)=true from qCw h.1,h.2]; rfl];rfl⟩
theorem qyy:∀ (s0:LU) (f1:LI),(qeb s0 f1=true)→∃ n,qop n s0 f1=qqv (qCv s0 f1):=fun s x h=>⟨0,by
 unfold qeb at h;rw [yf] at h;unfold qop;rw [show qlm s=true from h.1,show qdZ (z19 s) x=true by unfold qdZ; rw [show lenOk (z19 s)=true from qCw h.1,h.2]; rfl];rfl⟩
theorem qMf:∀ (s0:LU),(qLU s0=true)→∃ n,qMP n s0=qDG (z17 s0):=fun s h=>⟨0,by
 unfold qMP;rw [show qea s 0=true by unfold qea; rw [show lenOk s=true from h]; rfl];show qDG (qCu s 0)=_;congr 1;unfold qCu qyp eachF;rw [qMc,Int.zero_add];rfl⟩
theorem qMg:∀ (s0:LU),(qLV s0=true)→∃ n,qMO n s0=qDF (z16 s0):=fun s h=>⟨0,by
 unfold qMO;rw [show qeb s []=true by unfold qeb; rw [show lenOk s=true from h]; rfl];show qDF (qCv s [])=_;congr 1;unfold qCv qyq eachF;rw [qHO];rfl⟩
end Go.Av
