import Derived.Test.YtnfehbljinflbaaGreatDoorRRRRErT
namespace Go.Av
set_option linter.unusedVariables false
set_option linter.unusedSimpArgs false
theorem qvM (s:List Int):z8 s s=true:=by unfold z8; exact dT rfl
theorem qBo (s:List UInt8):(unf s).length≤s.length:=qex s 0
theorem qzN {s:List UInt8} (h:lenOk s=true):lenOk (unf s)=true:=qn (yL (qBo s) (qh h))
theorem qDg:∀ (x0:Int×((List UInt8)×Unit)) (t1:List Int) (x2:List Int),(qvI x0 t1 x2=true)→∃ n,qDt n x0 t1 x2=qBp (z21 x0 t1 x2):=fun p t x h=>⟨0,by
 have h:x.length+t.length≤4194304:=of_decide_eq_true h;unfold qDt;rw [dT (by unfold room; omega)];rfl⟩
theorem qDh:∀ (x0:Int×((List UInt8)×Unit)) (t1:List Int) (x2:List (List Int)),(qvJ x0 t1 x2=true)→∃ n,qDu n x0 t1 x2=qBq (z28 x0 t1 x2):=fun p t x h=>⟨0,by
 have h:x.length≤4194304:=of_decide_eq_true h;unfold qDu;rw [dT (by unfold room; simp; omega)];rfl⟩
theorem qDi:∀ (w0:List UInt8) (x1:Int),(qol w0 x1=true)→∃ n,qDM n w0 x1=qws (z32 w0 x1):=fun w x h=>⟨0,by
 unfold qol at h;simp only [yf,ym] at h;obtain ⟨h1,h2,h3⟩:=h;unfold qDM z32;rw [show qyA w=true from h1];obtain ⟨k,rfl⟩:∃ k:Nat,x=k:=⟨x.toNat,by omega⟩;rw [qz (by omega)];cases z33 w <;> rfl⟩
theorem qDj:∀ (w0:List UInt8) (x1:List Int),(qom w0 x1=true)→∃ n,qDH n w0 x1=qBA (z30 w0 x1):=fun w x h=>⟨0,by
 unfold qom at h;simp only [yf,ym] at h;unfold qDH z30;rw [show qyB w=true from h.1,dT (by unfold room; simp; omega)];rfl⟩
theorem qsi:∀ (p0:Int×((List UInt8)×Unit)) (x1:List Int) (x2:Int),(qcp p0 x1 x2=true)→∃ n,qkZ n p0 x1 x2=qhV (qir p0 x1 x2):=fun p t x h=>⟨0,by
 unfold qcp at h;unfold qkZ qir;cases hp:p.1==3 with
 | false=>rfl
 | true=>rw [hp] at h; rw [show qol p.2.1 x=true from h]; rfl⟩
theorem qsj:∀ (p0:Int×((List UInt8)×Unit)) (x1:List Int) (x2:List Int),(qcq p0 x1 x2=true)→∃ n,qla n p0 x1 x2=qhW (qis p0 x1 x2):=fun p t x h=>⟨0,by
 unfold qcq at h;unfold qla qis;cases hp:p.1==3 with
 | false=>rfl
 | true=>rw [hp] at h; rw [show qom p.2.1 x=true from h]; rfl⟩
theorem qfB:∀ (n:Nat) (s:List UInt8),(qcj n s).length≤n
 | 0,_=>yv _
 | n+1,[]=>Nat.zero_le _
 | n+1,c :: r=>by
  have:=qfB n ((c :: r).drop (alike (c :: r)));show ((kindB ((c :: r).take (alike (c :: r))),((c :: r).take (alike (c :: r)),())) :: qcj n ((c :: r).drop (alike (c :: r)))).length≤n+1;rw [yg];omega
theorem qiK (l:List qF):∀ (d i:Nat),(showF l d i).length≤d
 | 0,_=>yv _
 | d+1,i=>by
  have:=qiK l d (i+1);show (bif qbI l i then showF l d (i+1) else l.getD i (0,([],())) :: showF l d (i+1)).length≤d+1;cases qbI l i with
  | true=>show (showF l d (i+1)).length≤d+1; omega
  | false=>show (l.getD i (0,([],())) :: showF l d (i+1)).length≤d+1; rw [yg]; omega
theorem qbW (s:List UInt8):(z37 s).length≤s.length:=yL (qiK _ _ _) (qfB _ _)
theorem qIl (l:List qF):∀ p∈l,p.2.1.length≤(l.map fun p=>p.2.1.length).sum:=by
 induction l with
 | nil=>intro p hp; cases hp
 | cons q l ih =>
  intro p hp;rw [yI,List.sum_cons];rcases List.mem_cons.1 hp with rfl | hp
  ·omega
  ·have:=ih p hp; omega
theorem qgk (s:List UInt8):∀ p∈z37 s,p.2.1.length≤s.length:=fun p hp=>yL (qIl _ p hp) (qkN s)
theorem qey {σ:Type} {f:qF→List Int→σ→σ} {k0:σ→Option AV} {L:Nat→List qF→Int→Int→σ→Option AV} {l:List qF} {P:Nat→σ→Prop}
 (hstep:∀ (n i:Nat) (x:σ) (hi:i < l.length),P i x→L (n+1) l ((l.length:Nat):Int) (i:Int) x=L n l ((l.length:Nat):Int) ((i+1:Nat):Int) (f l[i] (qaU l[i]) x))
 (hend:∀ (n:Nat) (x:σ),L (n+1) l ((l.length:Nat):Int) ((l.length:Nat):Int) x=k0 x)
 (hP:∀ (i:Nat) (x:σ) (hi:i < l.length),P i x→P (i+1) (f l[i] (qaU l[i]) x)) :
 ∀ (d i n:Nat) (x:σ),i+d=l.length→d < n→P i x→L n l ((l.length:Nat):Int) (i:Int) x=k0 ((l.drop i).foldl (fun a p=>f p (qaU p) a) x)
 | d,i,0,x,hi,hn,hp=>by omega
 | 0,i,n+1,x,hi,hn,hp=>by
  obtain rfl:i=l.length:=by omega
  rw [hend,List.drop_length];rfl
 | d+1,i,n+1,x,hi,hn,hp=>by
  have hlt:i < l.length:=by omega
  rw [hstep n i x hlt hp,qey hstep hend hP d (i+1) n _ (by omega) (by omega) (hP i x hlt hp),List.drop_eq_getElem_cons hlt,List.foldl_cons]
theorem qez {l:List qF} {i:Nat} (h:i < l.length):l.getD i ((0:Int),(([]:List UInt8),()))=l[i]:=by
 rw [yY,yO h]; rfl
theorem qsk:∀ (s0:List UInt8) (f1:List Int),(qdl s0 f1=true)→∃ n,qgw n s0 f1=qhX (qse s0 f1):=fun s x h=>⟨1048577,by
 unfold qdl at h;rw [yf,ym] at h;have hs:=qh h.1;have hc:=qbW s;have hsum:=qkN s;unfold qgw;rw [show qiw s=true from h.1];have hm:=qgk s;unfold qse eachF;generalize z37 s=l at hc hsum hm;refine qey (f:=z21) (k0:=qhX) (L:=qcx (qcf 1048577)) (P:=fun i x=>x.length+((l.drop i).map fun p=>p.2.1.length).sum≤1048576) (fun n i x hi hp=>?_) (fun n x=>?_) (fun i x hi hp=>?_) l.length 0 1048577 x (yE _) (by omega) (by rw [yw]; omega)
 ·have hl:=hm _ (List.getElem_mem hi);have hr:=qhz l[i];show qbh _ _ n _ _ _ _=_;unfold qbh qay qr;rw [tn,qez hi,dT (show (i:Int) < ((l.length:Nat):Int) by omega),dT (show (0:Int)≤(i:Int) by omega),qaj,qaj,qz (by omega),show qfU l[i].2.1=true from qn (by omega),show qiq l[i].2.1=true from qn (by omega)];have hok:qvI l[i] (qaU l[i]) x=true:=dT (by omega);unfold qaU at hok ⊢
  by_cases hk:l[i].1=3
  ·rw [bneF hk,show (l[i].1==3)=true by simp [hk]] at *
   simp only [yc,yd,yi] at hok ⊢;rw [hok];rfl
  ·rw [bneT hk,show (l[i].1==3)=false by simp [hk]] at *
   simp only [yc,yd,yi] at hok ⊢;rw [hok];rfl
 ·show qbh _ _ n _ _ _ _=_;unfold qbh qay qr;rw [dF (by omega)];rfl
 ·rw [List.drop_eq_getElem_cons hi,yI,List.sum_cons] at hp;have:=qhz l[i];show (x++qaU l[i]).length+_≤_;rw [yn];omega⟩
theorem qsl:∀ (s0:List UInt8) (f1:List (List Int)),(qdm s0 f1=true)→∃ n,qgx n s0 f1=qhY (qsf s0 f1):=fun s x h=>⟨1048577,by
 unfold qdm at h;rw [yf,ym] at h;have hs:=qh h.1;have hc:=qbW s;unfold qgx;rw [show qiw s=true from h.1];have hm:=qgk s;unfold qsf eachF;generalize z37 s=l at hc hm;refine qey (f:=z28) (k0:=qhY) (L:=qcy (qcg 1048577)) (P:=fun i x=>x.length≤i) (fun n i x hi hp=>?_) (fun n x=>?_) (fun i x hi hp=>?_) l.length 0 1048577 x (yE _) (by omega) (by omega)
 ·have hl:=hm _ (List.getElem_mem hi);show qbi _ _ n _ _ _ _=_;unfold qbi qaz qt;rw [tn,qez hi,dT (show (i:Int) < ((l.length:Nat):Int) by omega),dT (show (0:Int)≤(i:Int) by omega),qaj,qaj,qz (by omega),show qfU l[i].2.1=true from qn (by omega),show qiq l[i].2.1=true from qn (by omega)];have hok:∀ t,qvJ l[i] t x=true:=fun _=>dT (by omega);unfold qaU
  by_cases hk:l[i].1=3
  ·rw [bneF hk,show (l[i].1==3)=true by simp [hk]];simp only [yc,yd,yi,hok]
  ·rw [bneT hk,show (l[i].1==3)=false by simp [hk]];simp only [yc,yd,yi,hok]
 ·show qbi _ _ n _ _ _ _=_;unfold qbi qaz qt;rw [dF (by omega)];rfl
 ·show (x++[qaU l[i]]).length≤_;rw [yn,yg,List.length_nil];omega⟩
theorem qsm:∀ (s0:List UInt8) (f1:Int),(qdn s0 f1=true)→∃ n,qgy n s0 f1=qhZ (qsg s0 f1):=fun s x h=>⟨1048577,by
 unfold qdn at h;rw [yf,ym] at h;have hs:=qh h.1;have hc:=qbW s;unfold qgy;rw [show qiw s=true from h.1];have hm:=qgk s;unfold qsg eachF;generalize z37 s=l at hc hm;refine qey (f:=qir) (k0:=qhZ) (L:=qcz (qch 1048577)) (P:=fun i x=>0≤x∧x≤(i:Int)) (fun n i x hi hp=>?_) (fun n x=>?_) (fun i x hi hp=>?_) l.length 0 1048577 x (yE _) (by omega) (by omega)
 ·have hl:=hm _ (List.getElem_mem hi);show qbj _ _ n _ _ _ _=_;unfold qbj qaA qu;rw [tn,qez hi,dT (show (i:Int) < ((l.length:Nat):Int) by omega),dT (show (0:Int)≤(i:Int) by omega),qaj,qaj,qz (by omega),show qfU l[i].2.1=true from qn (by omega),show qiq l[i].2.1=true from qn (by omega)];have hok:∀ t,qcp l[i] t x=true:=fun _=>by
   unfold qcp qol;rw [qn (show l[i].2.1.length≤1048576 by omega),dT (show (0:Int)≤x by omega),dT (show x≤4194304 by omega)];cases l[i].1==3 <;> rfl
  unfold qaU
  by_cases hk:l[i].1=3
  ·rw [bneF hk,show (l[i].1==3)=true by simp [hk]];simp only [yc,yd,yi,hok]
  ·rw [bneT hk,show (l[i].1==3)=false by simp [hk]];simp only [yc,yd,yi,hok]
 ·show qbj _ _ n _ _ _ _=_;unfold qbj qaA qu;rw [dF (by omega)];rfl
 ·unfold qir z32;cases l[i].1==3 with
  | false=>show 0≤x∧x≤_; omega
  | true =>
   cases z33 l[i].2.1 with
   | true=>show 0≤x∧x≤_; omega
   | false=>show 0≤x+1∧x+1≤_; omega⟩
theorem qsn:∀ (s0:List UInt8) (f1:List Int),(qdo s0 f1=true)→∃ n,qgz n s0 f1=qia (qsh s0 f1):=fun s x h=>⟨1048577,by
 unfold qdo at h;rw [yf,ym] at h;have hs:=qh h.1;have hc:=qbW s;unfold qgz;rw [show qiw s=true from h.1];have hm:=qgk s;unfold qsh eachF;generalize z37 s=l at hc hm;refine qey (f:=qis) (k0:=qia) (L:=qcA (qci 1048577)) (P:=fun i x=>x.length≤i) (fun n i x hi hp=>?_) (fun n x=>?_) (fun i x hi hp=>?_) l.length 0 1048577 x (yE _) (by omega) (by omega)
 ·have hl:=hm _ (List.getElem_mem hi);show qbk _ _ n _ _ _ _=_;unfold qbk qaB qv;rw [tn,qez hi,dT (show (i:Int) < ((l.length:Nat):Int) by omega),dT (show (0:Int)≤(i:Int) by omega),qaj,qaj,qz (by omega),show qfU l[i].2.1=true from qn (by omega),show qiq l[i].2.1=true from qn (by omega)];have hok:∀ t,qcq l[i] t x=true:=fun _=>by
   unfold qcq qom;rw [qn (show l[i].2.1.length≤1048576 by omega),dT (show x.length≤4194304 by omega)];cases l[i].1==3 <;> rfl
  unfold qaU
  by_cases hk:l[i].1=3
  ·rw [bneF hk,show (l[i].1==3)=true by simp [hk]];simp only [yc,yd,yi,hok]
  ·rw [bneT hk,show (l[i].1==3)=false by simp [hk]];simp only [yc,yd,yi,hok]
 ·show qbk _ _ n _ _ _ _=_;unfold qbk qaB qv;rw [dF (by omega)];rfl
 ·unfold qis z30;cases l[i].1==3 with
  | false=>show x.length≤_; omega
  | true =>
   show (x++[z31 l[i].2.1]).length≤_;rw [yn,yg,List.length_nil];omega⟩
theorem qDk (l:List qF):∀ x:List Int,l.foldl (fun a p=>z21 p (qaU p) a) x=x++l.flatMap qaU:=by
 induction l with
 | nil=>intro x; simp
 | cons p l ih =>
  intro x;rw [List.foldl_cons,ih,List.flatMap_cons,← yl];rfl
theorem qvN (l:List qF):∀ x:List (List Int),l.foldl (fun a p=>z28 p (qaU p) a) x=x++l.map qaU:=by
 induction l with
 | nil=>intro x; simp
 | cons p l ih =>
  intro x;rw [List.foldl_cons,ih,yI];show x++[qaU p]++_=_;rw [yl];rfl
theorem qDl (l:List qF):∀ x:Int,l.foldl (fun a p=>qir p (qaU p) a) x=x+oddOf (qhB l):=by
 induction l with
 | nil=>intro x; show x=x+((0:Nat):Int); omega
 | cons p l ih =>
  intro x;rw [List.foldl_cons,ih];unfold qir z32 qhB oddOf;cases hp:p.1==3 with
  | false =>
   rw [List.filter_cons_of_neg (by simp [hp])];rfl
  | true =>
   rw [List.filter_cons_of_pos (by simp [hp]),yI];cases hs:z33 p.2.1 with
   | true =>
    rw [List.countP_cons_of_neg (by simp [hs])];rfl
   | false =>
    rw [List.countP_cons_of_pos (by simp [hs])];show x+1+_=_;omega
theorem qzO (l:List qF):∀ x:List Int,l.foldl (fun a p=>qis p (qaU p) a) x=x++(qhB l).map z31:=by
 induction l with
 | nil=>intro x; simp [qhB]
 | cons p l ih =>
  intro x;rw [List.foldl_cons,ih];unfold qis z30 qhB;cases hp:p.1==3 with
  | false =>
   rw [List.filter_cons_of_neg (by simp [hp])];rfl
  | true =>
   rw [List.filter_cons_of_pos (by simp [hp]),yI,yI];show x++[z31 p.2.1]++_=_;rw [yl];rfl
theorem qDm:∀ (s0:List UInt8),(qzL s0=true)→∃ n,qDT n s0=qwT (z11 s0):=fun s h=>⟨0,by
 unfold qDT;rw [show qdl s []=true by unfold qdl; rw [show lenOk s=true from h]; rfl];show qwT (qse s [])=_;congr 1;unfold qse eachF;rw [qDk];rfl⟩
theorem qIm:∀ (s0:List UInt8),(z9_ok s0=true)→∃ n,z9_sh n s0=qIu (z9 s0):=fun s h=>⟨0,by
 have h:lenOk s=true:=h;unfold z9_sh;rw [show qiy s=true from h,show qzL (z19 s)=true from qzN h];rfl⟩
theorem qDn:∀ (s0:List UInt8),(qvH s0=true)→∃ n,qDW n s0=qwV (z15 s0):=fun s h=>⟨0,by
 have h:lenOk s=true:=h;unfold qDW;rw [show qiy s=true from h,show qdm (z19 s) []=true by unfold qdm; rw [show lenOk (z19 s)=true from qzN h]; rfl];show qwV (qsf (unf s) [])=_;congr 1;unfold qsf eachF;rw [qvN];rfl⟩
theorem qso:∀ (s0:List UInt8) (f1:Int),(qdp s0 f1=true)→∃ n,qld n s0 f1=qmw (qvK s0 f1):=fun s x h=>⟨0,by
 unfold qdp at h;rw [yf] at h;unfold qld;rw [show qiy s=true from h.1,show qdn (z19 s) x=true by unfold qdn; rw [show lenOk (z19 s)=true from qzN h.1,h.2]; rfl];rfl⟩
theorem qsp:∀ (s0:List UInt8) (f1:List Int),(qdq s0 f1=true)→∃ n,qle n s0 f1=qmx (qvL s0 f1):=fun s x h=>⟨0,by
 unfold qdq at h;rw [yf] at h;unfold qle;rw [show qiy s=true from h.1,show qdo (z19 s) x=true by unfold qdo; rw [show lenOk (z19 s)=true from qzN h.1,h.2]; rfl];rfl⟩
theorem qDo:∀ (s0:List UInt8),(qvF s0=true)→∃ n,qDY n s0=qwX (z17 s0):=fun s h=>⟨0,by
 unfold qDY;rw [show qdp s 0=true by unfold qdp; rw [show lenOk s=true from h]; rfl];show qwX (qvK s 0)=_;congr 1;unfold qvK qsg eachF;rw [qDl,Int.zero_add];rfl⟩
theorem qDp:∀ (s0:List UInt8),(qvG s0=true)→∃ n,qDX n s0=qwW (z16 s0):=fun s h=>⟨0,by
 unfold qDX;rw [show qdq s []=true by unfold qdq; rw [show lenOk s=true from h]; rfl];show qwW (qvL s [])=_;congr 1;unfold qvL qsh eachF;rw [qzO];rfl⟩
end Go.Av
