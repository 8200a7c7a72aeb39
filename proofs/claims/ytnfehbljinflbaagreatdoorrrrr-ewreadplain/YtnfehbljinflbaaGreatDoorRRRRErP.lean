import Derived.Test.YtnfehbljinflbaaGreatDoorRRRRErT
namespace Go.Av
set_option linter.unusedVariables false
set_option linter.unusedSimpArgs false
theorem qHP (s:List UInt8):(unf s).length≤s.length:=qgn s 0
theorem qzE {s:List UInt8} (h:lenOk s=true):lenOk (unf s)=true:=qo (yL (qHP s) (qg h))
theorem qCU:∀ (x0:Int×((List UInt8)×Unit)) (t1:List Int) (x2:List Int),(qvD x0 t1 x2=true)→∃ n,qDe n x0 t1 x2=qBe (z21 x0 t1 x2):=fun p t x h=>⟨0,by
 have h:x.length+t.length≤4194304:=of_decide_eq_true h;unfold qDe;rw [dT (by unfold room; omega)];rfl⟩
theorem qCV:∀ (x0:Int×((List UInt8)×Unit)) (t1:List Int) (x2:List (List Int)),(qvE x0 t1 x2=true)→∃ n,qDf n x0 t1 x2=qBf (z28 x0 t1 x2):=fun p t x h=>⟨0,by
 have h:x.length≤4194304:=of_decide_eq_true h;unfold qDf;rw [dT (by unfold room; simp; omega)];rfl⟩
theorem qCW:∀ (w0:List UInt8) (x1:Int),(qok w0 x1=true)→∃ n,qDx n w0 x1=qwm (z32 w0 x1):=fun w x h=>⟨0,by
 unfold qok at h;simp only [yf,ym] at h;obtain ⟨h1,h2,h3⟩:=h;unfold qDx z32;rw [show qyt w=true from h1];obtain ⟨k,rfl⟩:∃ k:Nat,x=k:=⟨x.toNat,by omega⟩;rw [qz (by omega)];cases z33 w <;> rfl⟩
theorem qCX:∀ (w0:List UInt8) (x1:List Int),(qol w0 x1=true)→∃ n,qDs n w0 x1=qBp (z30 w0 x1):=fun w x h=>⟨0,by
 unfold qol at h;simp only [yf,ym] at h;unfold qDs z30;rw [show qyu w=true from h.1,dT (by unfold room; simp; omega)];rfl⟩
theorem qsf:∀ (p0:Int×((List UInt8)×Unit)) (x1:List Int) (x2:Int),(qco p0 x1 x2=true)→∃ n,qla n p0 x1 x2=qhX (qis p0 x1 x2):=fun p t x h=>⟨0,by
 unfold qco at h;unfold qla qis;cases hp:p.1==3 with
 | false=>rfl
 | true=>rw [hp] at h; rw [show qok p.2.1 x=true from h]; rfl⟩
theorem qsg:∀ (p0:Int×((List UInt8)×Unit)) (x1:List Int) (x2:List Int),(qcp p0 x1 x2=true)→∃ n,qlb n p0 x1 x2=qhY (qit p0 x1 x2):=fun p t x h=>⟨0,by
 unfold qcp at h;unfold qlb qit;cases hp:p.1==3 with
 | false=>rfl
 | true=>rw [hp] at h; rw [show qol p.2.1 x=true from h]; rfl⟩
theorem qfE:∀ (n:Nat) (s:List UInt8),(qbz n s).length≤n
 | 0,_=>yv _
 | n+1,[]=>Nat.zero_le _
 | n+1,c :: r=>by
  have:=qfE n ((c :: r).drop (alike (c :: r)));show ((kindB ((c :: r).take (alike (c :: r))),((c :: r).take (alike (c :: r)),())) :: qbz n ((c :: r).drop (alike (c :: r)))).length≤n+1;rw [yg];omega
theorem qiK (l:List qF):∀ (d i:Nat),(showF l d i).length≤d
 | 0,_=>yv _
 | d+1,i=>by
  have:=qiK l d (i+1);show (bif qaR l i then showF l d (i+1) else l.getD i (0,([],())) :: showF l d (i+1)).length≤d+1;cases qaR l i with
  | true=>show (showF l d (i+1)).length≤d+1; omega
  | false=>show (l.getD i (0,([],())) :: showF l d (i+1)).length≤d+1; rw [yg]; omega
theorem qdr (s:List UInt8):(z37 s).length≤s.length:=yL (qiK _ _ _) (qfE _ _)
theorem qHQ (l:List qF):∀ p∈l,p.2.1.length≤(l.map fun p=>p.2.1.length).sum:=by
 induction l with
 | nil=>intro p hp; cases hp
 | cons q l ih =>
  intro p hp;rw [yI,List.sum_cons];rcases List.mem_cons.1 hp with rfl | hp
  ·omega
  ·have:=ih p hp; omega
theorem qgo (s:List UInt8):∀ p∈z37 s,p.2.1.length≤s.length:=fun p hp=>yL (qHQ _ p hp) (qqa s)
theorem qey {σ:Type} {f:qF→List Int→σ→σ} {k0:σ→Option AV} {L:Nat→List qF→Int→Int→σ→Option AV} {l:List qF} {P:Nat→σ→Prop}
 (hstep:∀ (n i:Nat) (x:σ) (hi:i < l.length),P i x→L (n+1) l ((l.length:Nat):Int) (i:Int) x=L n l ((l.length:Nat):Int) ((i+1:Nat):Int) (f l[i] (qbd l[i]) x))
 (hend:∀ (n:Nat) (x:σ),L (n+1) l ((l.length:Nat):Int) ((l.length:Nat):Int) x=k0 x)
 (hP:∀ (i:Nat) (x:σ) (hi:i < l.length),P i x→P (i+1) (f l[i] (qbd l[i]) x)) :
 ∀ (d i n:Nat) (x:σ),i+d=l.length→d < n→P i x→L n l ((l.length:Nat):Int) (i:Int) x=k0 ((l.drop i).foldl (fun a p=>f p (qbd p) a) x)
 | d,i,0,x,hi,hn,hp=>by omega
 | 0,i,n+1,x,hi,hn,hp=>by
  obtain rfl:i=l.length:=by omega
  rw [hend,List.drop_length];rfl
 | d+1,i,n+1,x,hi,hn,hp=>by
  have hlt:i < l.length:=by omega
  rw [hstep n i x hlt hp,qey hstep hend hP d (i+1) n _ (by omega) (by omega) (hP i x hlt hp),List.drop_eq_getElem_cons hlt,List.foldl_cons]
theorem qez {l:List qF} {i:Nat} (h:i < l.length):l.getD i ((0:Int),(([]:List UInt8),()))=l[i]:=by
 rw [yY,yO h]; rfl
theorem qsh:∀ (s0:List UInt8) (f1:List Int),(qdl s0 f1=true)→∃ n,qgA n s0 f1=qhZ (qsb s0 f1):=fun s x h=>⟨1048577,by
 unfold qdl at h;rw [yf,ym] at h;have hs:=qg h.1;have hc:=qdr s;have hsum:=qqa s;unfold qgA;rw [show qix s=true from h.1];have hm:=qgo s;unfold qsb eachF;generalize z37 s=l at hc hsum hm;refine qey (f:=z21) (k0:=qhZ) (L:=qcw (qcf 1048577)) (P:=fun i x=>x.length+((l.drop i).map fun p=>p.2.1.length).sum≤1048576) (fun n i x hi hp=>?_) (fun n x=>?_) (fun i x hi hp=>?_) l.length 0 1048577 x (yE _) (by omega) (by rw [yw]; omega)
 ·have hl:=hm _ (List.getElem_mem hi);have hr:=qmr l[i];show qbj _ _ n _ _ _ _=_;unfold qbj qay qr;rw [tn,qez hi,dT (show (i:Int) < ((l.length:Nat):Int) by omega),dT (show (0:Int)≤(i:Int) by omega),qaj,qaj,qz (by omega),show qfX l[i].2.1=true from qo (by omega),show qir l[i].2.1=true from qo (by omega)];have hok:qvD l[i] (qbd l[i]) x=true:=dT (by omega);unfold qbd at hok ⊢
  by_cases hk:l[i].1=3
  ·rw [bneF hk,show (l[i].1==3)=true by simp [hk]] at *
   simp only [yc,yd,yi] at hok ⊢;rw [hok];rfl
  ·rw [bneT hk,show (l[i].1==3)=false by simp [hk]] at *
   simp only [yc,yd,yi] at hok ⊢;rw [hok];rfl
 ·show qbj _ _ n _ _ _ _=_;unfold qbj qay qr;rw [dF (by omega)];rfl
 ·rw [List.drop_eq_getElem_cons hi,yI,List.sum_cons] at hp;have:=qmr l[i];show (x++qbd l[i]).length+_≤_;rw [yn];omega⟩
theorem qsi:∀ (s0:List UInt8) (f1:List (List Int)),(qdm s0 f1=true)→∃ n,qgB n s0 f1=qia (qsc s0 f1):=fun s x h=>⟨1048577,by
 unfold qdm at h;rw [yf,ym] at h;have hs:=qg h.1;have hc:=qdr s;unfold qgB;rw [show qix s=true from h.1];have hm:=qgo s;unfold qsc eachF;generalize z37 s=l at hc hm;refine qey (f:=z28) (k0:=qia) (L:=qcx (qcg 1048577)) (P:=fun i x=>x.length≤i) (fun n i x hi hp=>?_) (fun n x=>?_) (fun i x hi hp=>?_) l.length 0 1048577 x (yE _) (by omega) (by omega)
 ·have hl:=hm _ (List.getElem_mem hi);show qbk _ _ n _ _ _ _=_;unfold qbk qaz qt;rw [tn,qez hi,dT (show (i:Int) < ((l.length:Nat):Int) by omega),dT (show (0:Int)≤(i:Int) by omega),qaj,qaj,qz (by omega),show qfX l[i].2.1=true from qo (by omega),show qir l[i].2.1=true from qo (by omega)];have hok:∀ t,qvE l[i] t x=true:=fun _=>dT (by omega);unfold qbd
  by_cases hk:l[i].1=3
  ·rw [bneF hk,show (l[i].1==3)=true by simp [hk]];simp only [yc,yd,yi,hok]
  ·rw [bneT hk,show (l[i].1==3)=false by simp [hk]];simp only [yc,yd,yi,hok]
 ·show qbk _ _ n _ _ _ _=_;unfold qbk qaz qt;rw [dF (by omega)];rfl
 ·show (x++[qbd l[i]]).length≤_;rw [yn,yg,List.length_nil];omega⟩
theorem qsj:∀ (s0:List UInt8) (f1:Int),(qdn s0 f1=true)→∃ n,qgC n s0 f1=qib (qsd s0 f1):=fun s x h=>⟨1048577,by
 unfold qdn at h;rw [yf,ym] at h;have hs:=qg h.1;have hc:=qdr s;unfold qgC;rw [show qix s=true from h.1];have hm:=qgo s;unfold qsd eachF;generalize z37 s=l at hc hm;refine qey (f:=qis) (k0:=qib) (L:=qcy (qch 1048577)) (P:=fun i x=>0≤x∧x≤(i:Int)) (fun n i x hi hp=>?_) (fun n x=>?_) (fun i x hi hp=>?_) l.length 0 1048577 x (yE _) (by omega) (by omega)
 ·have hl:=hm _ (List.getElem_mem hi);show qbl _ _ n _ _ _ _=_;unfold qbl qaA qu;rw [tn,qez hi,dT (show (i:Int) < ((l.length:Nat):Int) by omega),dT (show (0:Int)≤(i:Int) by omega),qaj,qaj,qz (by omega),show qfX l[i].2.1=true from qo (by omega),show qir l[i].2.1=true from qo (by omega)];have hok:∀ t,qco l[i] t x=true:=fun _=>by
   unfold qco qok;rw [qo (show l[i].2.1.length≤1048576 by omega),dT (show (0:Int)≤x by omega),dT (show x≤4194304 by omega)];cases l[i].1==3 <;> rfl
  unfold qbd
  by_cases hk:l[i].1=3
  ·rw [bneF hk,show (l[i].1==3)=true by simp [hk]];simp only [yc,yd,yi,hok]
  ·rw [bneT hk,show (l[i].1==3)=false by simp [hk]];simp only [yc,yd,yi,hok]
 ·show qbl _ _ n _ _ _ _=_;unfold qbl qaA qu;rw [dF (by omega)];rfl
 ·unfold qis z32;cases l[i].1==3 with
  | false=>show 0≤x∧x≤_; omega
  | true =>
   cases z33 l[i].2.1 with
   | true=>show 0≤x∧x≤_; omega
   | false=>show 0≤x+1∧x+1≤_; omega⟩
theorem qsk:∀ (s0:List UInt8) (f1:List Int),(qdo s0 f1=true)→∃ n,qgD n s0 f1=qic (qse s0 f1):=fun s x h=>⟨1048577,by
 unfold qdo at h;rw [yf,ym] at h;have hs:=qg h.1;have hc:=qdr s;unfold qgD;rw [show qix s=true from h.1];have hm:=qgo s;unfold qse eachF;generalize z37 s=l at hc hm;refine qey (f:=qit) (k0:=qic) (L:=qcz (qci 1048577)) (P:=fun i x=>x.length≤i) (fun n i x hi hp=>?_) (fun n x=>?_) (fun i x hi hp=>?_) l.length 0 1048577 x (yE _) (by omega) (by omega)
 ·have hl:=hm _ (List.getElem_mem hi);show qbm _ _ n _ _ _ _=_;unfold qbm qaB qv;rw [tn,qez hi,dT (show (i:Int) < ((l.length:Nat):Int) by omega),dT (show (0:Int)≤(i:Int) by omega),qaj,qaj,qz (by omega),show qfX l[i].2.1=true from qo (by omega),show qir l[i].2.1=true from qo (by omega)];have hok:∀ t,qcp l[i] t x=true:=fun _=>by
   unfold qcp qol;rw [qo (show l[i].2.1.length≤1048576 by omega),dT (show x.length≤4194304 by omega)];cases l[i].1==3 <;> rfl
  unfold qbd
  by_cases hk:l[i].1=3
  ·rw [bneF hk,show (l[i].1==3)=true by simp [hk]];simp only [yc,yd,yi,hok]
  ·rw [bneT hk,show (l[i].1==3)=false by simp [hk]];simp only [yc,yd,yi,hok]
 ·show qbm _ _ n _ _ _ _=_;unfold qbm qaB qv;rw [dF (by omega)];rfl
 ·unfold qit z30;cases l[i].1==3 with
  | false=>show x.length≤_; omega
  | true =>
   show (x++[z31 l[i].2.1]).length≤_;rw [yn,yg,List.length_nil];omega⟩
theorem qCY (l:List qF):∀ x:List Int,l.foldl (fun a p=>z21 p (qbd p) a) x=x++l.flatMap qbd:=by
 induction l with
 | nil=>intro x; simp
 | cons p l ih =>
  intro x;rw [List.foldl_cons,ih,List.flatMap_cons,← yl];rfl
theorem qvH (l:List qF):∀ x:List (List Int),l.foldl (fun a p=>z28 p (qbd p) a) x=x++l.map qbd:=by
 induction l with
 | nil=>intro x; simp
 | cons p l ih =>
  intro x;rw [List.foldl_cons,ih,yI];show x++[qbd p]++_=_;rw [yl];rfl
theorem qCZ (l:List qF):∀ x:Int,l.foldl (fun a p=>qis p (qbd p) a) x=x+oddOf (qfD l):=by
 induction l with
 | nil=>intro x; show x=x+((0:Nat):Int); omega
 | cons p l ih =>
  intro x;rw [List.foldl_cons,ih];unfold qis z32 qfD oddOf;cases hp:p.1==3 with
  | false =>
   rw [List.filter_cons_of_neg (by simp [hp])];rfl
  | true =>
   rw [List.filter_cons_of_pos (by simp [hp]),yI];cases hs:z33 p.2.1 with
   | true =>
    rw [List.countP_cons_of_neg (by simp [hs])];rfl
   | false =>
    rw [List.countP_cons_of_pos (by simp [hs])];show x+1+_=_;omega
theorem qzF (l:List qF):∀ x:List Int,l.foldl (fun a p=>qit p (qbd p) a) x=x++(qfD l).map z31:=by
 induction l with
 | nil=>intro x; simp [qfD]
 | cons p l ih =>
  intro x;rw [List.foldl_cons,ih];unfold qit z30 qfD;cases hp:p.1==3 with
  | false =>
   rw [List.filter_cons_of_neg (by simp [hp])];rfl
  | true =>
   rw [List.filter_cons_of_pos (by simp [hp]),yI,yI];show x++[z31 p.2.1]++_=_;rw [yl];rfl
theorem qDa:∀ (s0:List UInt8),(qzD s0=true)→∃ n,qDE n s0=qwM (z11 s0):=fun s h=>⟨0,by
 unfold qDE;rw [show qdl s []=true by unfold qdl; rw [show lenOk s=true from h]; rfl];show qwM (qsb s [])=_;congr 1;unfold qsb eachF;rw [qCY];rfl⟩
theorem qHR:∀ (s0:List UInt8),(z9_ok s0=true)→∃ n,z9_sh n s0=qHZ (z9 s0):=fun s h=>⟨0,by
 have h:lenOk s=true:=h;unfold z9_sh;rw [show qiy s=true from h,show qzD (z19 s)=true from qzE h];rfl⟩
theorem qDb:∀ (s0:List UInt8),(qCT s0=true)→∃ n,qDH n s0=qwO (z15 s0):=fun s h=>⟨0,by
 have h:lenOk s=true:=h;unfold qDH;rw [show qiy s=true from h,show qdm (z19 s) []=true by unfold qdm; rw [show lenOk (z19 s)=true from qzE h]; rfl];show qwO (qsc (unf s) [])=_;congr 1;unfold qsc eachF;rw [qvH];rfl⟩
theorem qsl:∀ (s0:List UInt8) (f1:Int),(qdp s0 f1=true)→∃ n,qle n s0 f1=qmx (qvF s0 f1):=fun s x h=>⟨0,by
 unfold qdp at h;rw [yf] at h;unfold qle;rw [show qiy s=true from h.1,show qdn (z19 s) x=true by unfold qdn; rw [show lenOk (z19 s)=true from qzE h.1,h.2]; rfl];rfl⟩
theorem qsm:∀ (s0:List UInt8) (f1:List Int),(qdq s0 f1=true)→∃ n,qlf n s0 f1=qmy (qvG s0 f1):=fun s x h=>⟨0,by
 unfold qdq at h;rw [yf] at h;unfold qlf;rw [show qiy s=true from h.1,show qdo (z19 s) x=true by unfold qdo; rw [show lenOk (z19 s)=true from qzE h.1,h.2]; rfl];rfl⟩
theorem qDc:∀ (s0:List UInt8),(qCS s0=true)→∃ n,qDJ n s0=qwQ (z17 s0):=fun s h=>⟨0,by
 unfold qDJ;rw [show qdp s 0=true by unfold qdp; rw [show lenOk s=true from h]; rfl];show qwQ (qvF s 0)=_;congr 1;unfold qvF qsd eachF;rw [qCZ,Int.zero_add];rfl⟩
theorem qDd:∀ (s0:List UInt8),(qvC s0=true)→∃ n,qDI n s0=qwP (z16 s0):=fun s h=>⟨0,by
 unfold qDI;rw [show qdq s []=true by unfold qdq; rw [show lenOk s=true from h]; rfl];show qwP (qvG s [])=_;congr 1;unfold qvG qse eachF;rw [qzF];rfl⟩
end Go.Av
