import Derived.Test.YtabdohophompiaaGreatDoorPxP1
namespace Go.Av
set_option linter.unusedSimpArgs false
set_option linter.unusedVariables false
theorem qtY (name:List UInt8) (n:Int) (e:Bool):(nameL name n e).length≤name.length+4:=by
 have hd:=qiV n;unfold nameL;cases decide (0≤n) <;> cases e <;> simp <;> omega
theorem qBV:∀ (p0:(List UInt8)×(Int×(Bool×((List UInt8)×Unit)))),(qtP p0=true)→∃ n,qCU n p0=qkK (z55 p0):=fun p h=>⟨0,by
 unfold qtP at h;simp only [yf,ym] at h;obtain ⟨h1,h2⟩:=h;have hl:=qE h1;have hd:=qiV p.2.1;unfold qCU qcy z55 nameL room;rw [show qgB p.1=true from qv (by omega)];unfold z53 z95
 by_cases hn:0≤p.2.1
 ·rw [show qtN (p.1++[42]) p.2.1 10=true from by
   unfold qtN;rw [qv (by simp; omega),qGU ⟨hn,h2⟩];rfl]
  rw [dT hn];simp only [yn,yg,List.length_nil];rw [dT (by omega),dT (by omega)];simp only [yi,yc];cases p.2.2.1 with
  | true=>simp only [yc,yl,List.singleton_append]
  | false=>simp only [yd,yl,List.singleton_append,yF]
 ·rw [dF hn];simp only [yn,yg,List.length_nil];rw [dT (by omega)];simp only [yi,yc,yd,yF];cases p.2.2.1 <;> simp⟩
theorem qBW:∀ (p0:(List UInt8)×(Int×(Bool×((List UInt8)×Unit)))),(qqI p0=true)→∃ n,qDj n p0=qkT (z62 p0):=fun p h=>⟨0,by
 unfold qqI at h;simp only [yf,ym] at h;obtain ⟨h1,h2⟩:=h;have hl:=qE h1;have hd:=qiV p.2.1;unfold qDj qcA z62 nameL room;unfold z99
 by_cases hn:0≤p.2.1
 ·rw [show qtO p.2.1=true from qGU ⟨hn,h2⟩,dT hn];simp only [yn,yg,List.length_nil,List.nil_append];rw [dT (by omega),dT (by omega),dT (by omega),dT (by omega)];simp only [yi,yc];cases p.2.2.1 with
  | true=>simp only [yc,yl,List.singleton_append]
  | false=>simp only [yd,yl,List.singleton_append,yF]
 ·rw [dF hn];simp only [yn,yg,List.length_nil,List.nil_append];rw [dT (by omega),dT (by omega)];simp only [yi,yc,yd,yF];cases p.2.2.1 <;> simp⟩
theorem qfj (name:List UInt8) (n:Int) (cs:List UInt8):(headL name n cs).length≤name.length+cs.length+7:=by
 have hd:=qtY name n true;unfold headL;cases decide (0 < n) <;> simp <;> omega
theorem qBX:∀ (name0:List UInt8) (n1:Int) (charset2:Int),(qfx name0 n1 charset2=true)→∃ n,qCX n name0 n1 charset2=quY (z29 name0 n1 charset2):=fun name n cs h=>⟨0,by
 have h':=h;unfold qfx at h;simp only [yf,ym] at h;obtain ⟨h1,h2⟩:=h;have hl:=qE h1;have hd:=qtY name n true;have hc:=qfb cs;unfold qCX qdM z29 headL room;rw [show qtP (name,(n,(true,(([]:List UInt8),()))))=true from h'];unfold z55;simp only [yn,yg,List.length_nil]
 by_cases hn:0 < n
 ·rw [dT hn];simp (disch:=omega) only [dT,yi,yc]
 ·rw [dF hn];simp (disch:=omega) only [dT,yi,yc,yd,yl,List.singleton_append,List.cons_append,List.nil_append]⟩
theorem qBY:∀ (name0:List UInt8) (n1:Int) (charset2:List UInt8),(qfy name0 n1 charset2=true)→∃ n,qDk n name0 n1 charset2=qvg (z34 name0 n1 charset2):=fun name n cs h=>⟨0,by
 unfold qfy at h;simp only [yf,ym] at h;obtain ⟨h1,h2,h3⟩:=h;have hl:=qE h1;have hd:=qtY name n true;have hc:=qE h3;unfold qDk qdS z34 headL room;rw [show qqI (name,(n,(true,(([]:List UInt8),()))))=true from by
  unfold qqI;rw [h1,dT h2];rfl]
 unfold z62;simp only [yn,yg,List.length_nil]
 by_cases hn:0 < n
 ·rw [dT hn,dF (show ¬ n≤0 by omega)];simp (disch:=omega) only [dT,yi,yc,yd]
 ·rw [dF hn,dT (show n≤0 by omega)];simp (disch:=omega) only [dT,yi,yc,yd,yl,List.singleton_append,List.cons_append,List.nil_append]⟩
theorem qGV (n:Nat):decide ((0:Int) < (n:Int))=decide (0 < n):=by
 rcases Nat.eq_zero_or_pos n with rfl | h
 ·rfl
 ·rw [dT (show (0:Int) < (n:Int) by omega),dT h]
theorem qqR (n k:Nat):decide ((n:Int)≤(k:Int))=decide (n≤k):=by
 by_cases h:n≤k
 ·rw [dT h,dT (by omega)]
 ·rw [dF h,dF (by omega)]
theorem qBZ:∀ (name0:List UInt8),(qqJ name0=true)→∃ n,qCL n name0=qpc (z18 name0):=fun s h=>⟨0,by
 unfold qCL z18 mayN;rw [qGV,show decide (((s.length:Nat):Int)≤30)=decide (s.length≤30) from qqR _ 30,show qpW s 256=true from h];unfold z36;cases decide (0 < s.length) <;> cases decide (s.length≤30) <;> rfl⟩
theorem qCa:∀ (name0:List UInt8),(qqK name0=true)→∃ n,qDh n name0=qph (z19 name0):=fun s h=>⟨0,by
 unfold qDh z19 mayN;rw [show decide ((1:Int)≤((s.length:Nat):Int))=decide (0 < s.length) from qqR 1 _,show decide (((s.length:Nat):Int)≤30)=decide (s.length≤30) from qqR _ 30,show qpX s 256=true from h,qoQ];cases decide (0 < s.length) <;> cases decide (s.length≤30) <;> rfl⟩
theorem qCb:∀ (s0:List Int) (v1:Int),(qyk s0 v1=true)→∃ n,qCM n s0 v1=qAp (z50 s0 v1):=fun s v h=>⟨0,by
 unfold qCM;rw [show qpR s v=true from h];rfl⟩
theorem qCc:∀ (c0:Int),∃ n,qCE n c0=quy (z91 c0):=fun c=>⟨0,by
 unfold qCE z91;cases decide (c < 32) <;> rfl⟩
theorem qlT:∀ (t:List Int),(qcL t=true)→∃ n,qdJ n t=qbA (qq t):=fun t h=>⟨t.length+1,by
 have hl:=qr (l:=t) h;unfold qdJ qq;refine qdd (qbk (L:=fun n i=>qaY qbA (qaZ (t.length+1)) n t ((t.length:Nat):Int) i) hl (fun n i hi=>?_) (fun n=>?_) t.length 0 (t.length+1) (by omega) (by omega)) rfl
 ·show qaz _ _ _ n _ _ _=_;unfold qaz;simp (disch:=omega) only [dT,yc,yi,tn,ql];cases z91 (t.getD i 0) <;> rfl
 ·show qaz _ _ _ n _ _ _=_;unfold qaz;rw [dF (by omega)];rfl⟩
theorem qgE (p:Int→Bool):∀ (t:List Int) (i:Nat),decide (0≤qn (fun c => !(p c)) t i)=t.any p
 | [],i=>rfl
 | c :: r,i=>by
  have hstep:qn (fun c => !(p c)) (c :: r) (i:Int)=bif !(p c) then qn (fun c => !(p c)) r ((i+1:Nat):Int) else (i:Int):=rfl
  rw [hstep,List.any_cons];cases p c with
  | true =>
   simp only [Bool.not_true,yd,Bool.true_or];exact dT (by omega)
  | false =>
   simp only [Bool.not_false,yc,Bool.false_or];exact qgE p r (i+1)
theorem qCd:∀ (s0:List Int),(qyl s0=true)→∃ n,qCO n s0=qAq (z90 s0):=fun s h=>⟨0,by
 unfold qCO z90 qq;rw [show qcL s=true from h,show decide ((0:Int)≤qn (fun c => !(z91 c)) s 0)=s.any z91 from qgE _ s 0];rfl⟩
theorem qCe:∀ (t0:List Int),(qym t0=true)→∃ n,qCP n t0=qAr (z51 t0):=fun t h=>⟨0,by
 unfold qCP;rw [show qyl t=true from h];rfl⟩
theorem qgF (ret:Bool→Option AV) (t:List Int) (hl:t.length≤1048576):∀ (d i n:Nat),i+d=t.length→d < n→qkR ret (ret true) n t (i:Int)=ret (!((t.drop i).any z91))
 | d,i,0,hi,hn=>by omega
 | 0,i,n+1,hi,hn=>by
  show qeW _ _ _ n _ _=_;unfold qeW;rw [dF (by omega),yA (by omega)];rfl
 | d+1,i,n+1,hi,hn=>by
  show qeW _ _ _ n _ _=_;unfold qeW;have hlt:i < t.length:=by omega
  rw [qM (d:=(0:Int)) hlt,List.any_cons];simp (disch:=omega) only [dT,yc,yi,tn,ql];unfold z91;rw [show qkR ret (ret true) n t ((i+1:Nat):Int)=_ from qgF ret t hl d (i+1) n (by omega) (by omega)];unfold z91;cases decide (t.getD i 0 < 32) <;> cases decide (126 < t.getD i 0) <;> rfl
theorem qCf:∀ (t0:List Int),(qyo t0=true)→∃ n,qyW n t0=qkQ (z60 t0):=fun t h=>⟨t.length+1,by
 have hl:=qr (l:=t) h;unfold qyW z60;exact qgF qkQ t hl t.length 0 (t.length+1) (by omega) (by omega)⟩
theorem qGW (v:Int):∀ t:List Int,(t.any fun x=>v==x)=t.contains v
 | []=>rfl
 | c :: r=>by rw [List.any_cons,List.contains_cons,qGW v r]
theorem qqS (t:List Int) (v:Int):z50 t v=t.contains v:=by
 unfold z50 z89;rw [show decide ((0:Int)≤qn (fun x => !(v==x)) t 0)=t.any (fun x=>v==x) from qgE _ t 0,qGW]
theorem qCg:∀ (name0:List UInt8) (t1:List Int),(qiQ name0 t1=true)→∃ n,qCN n name0 t1=qkJ (z27 name0 t1):=fun name t h=>⟨0,by
 unfold qiQ at h;simp only [yf] at h;unfold qCN z27 qbM;rw [show qqJ name=true from h.1,show qpS t=true from h.2,show qyk t 0=true from h.2,qqS,show z18 name=mayN name from rfl];cases mayN name <;> cases z49 t <;> cases t.contains 0 <;> rfl⟩
theorem qgG (ret:Int→Option AV) (t:List Int) (hl:t.length≤1048576):∀ (d i n:Nat),i+d=t.length→d < n→qjl ret (ret 0) n t (i:Int)=ret (bif (t.drop i).contains 0 then 8 else 0)
 | d,i,0,hi,hn=>by omega
 | 0,i,n+1,hi,hn=>by
  show qeV _ _ _ n _ _=_;unfold qeV;rw [dF (by omega),yA (by omega)];rfl
 | d+1,i,n+1,hi,hn=>by
  show qeV _ _ _ n _ _=_;unfold qeV;have hlt:i < t.length:=by omega
  rw [qM (d:=(0:Int)) hlt,List.contains_cons];simp (disch:=omega) only [dT,yc,yi,tn,ql];rw [show qjl ret (ret 0) n t ((i+1:Nat):Int)=_ from qgG ret t hl d (i+1) n (by omega) (by omega),show ((0:Int)==t.getD i 0)=(t.getD i 0==0) from Bool.beq_comm];cases t.getD i 0==0 <;> rfl
theorem qqT (t:List Int) (h:i32s t=true):decide (0≤z59 t) = !(z49 t):=by
 have h1:qn z108 t 0=qn z97 t 0:=by
  have gen:∀ (t:List Int) (i:Int),i32s t=true→qn z108 t i=qn z97 t i:=fun t=>by
   induction t with
   | nil=>intro i _; rfl
   | cons c r ih =>
    intro i hi;have hc:=qce hi List.mem_cons_self;have hr:i32s r=true:=by
     unfold i32s at hi ⊢;rw [List.all_cons,yf] at hi;exact hi.2
    show (bif z108 c then qn z108 r (i+1) else i)=(bif z97 c then qn z97 r (i+1) else i);rw [qfR hc,ih _ hr]
  exact gen t 0 h
 unfold z59 z49;rw [h1];have h2:∀ (t:List Int) (i:Nat),qn z97 t i = -1∨0≤qn z97 t i:=fun t=>by
  induction t with
  | nil=>intro i; exact .inl rfl
  | cons c r ih =>
   intro i;show (bif z97 c then qn z97 r ((i+1:Nat):Int) else (i:Int)) = -1∨0≤(bif z97 c then qn z97 r ((i+1:Nat):Int) else (i:Int));cases z97 c with
   | true=>exact ih (i+1)
   | false=>exact .inr (by show (0:Int)≤(i:Int); omega)
 rcases h2 t 0 with e | e
 ·have e':qn z97 t 0 = -1:=e;rw [e'];rfl
 ·have e':0≤qn z97 t 0:=e;rw [dT e',show (qn z97 t 0 == -1)=false from beq_eq_false_iff_ne.2 (by omega)];rfl
theorem qCh:∀ (name0:List UInt8) (t1:List Int),(qiR name0 t1=true)→∃ n,qyV n name0 t1=qfo (z32 name0 t1):=fun name t h=>⟨t.length+1,by
 unfold qiR at h;simp only [yf] at h;have hl:=qr h.2.1;unfold qyV z32 qbM;rw [show qqK name=true from h.1,show qyn t=true from h.2.1,qqT t h.2.2,show z19 name=mayN name from rfl,
  show qjl qfo (qhd (t.length+1)) (t.length+1) t 0=_ from qgG qfo t hl t.length 0 (t.length+1) (by omega) (by omega),yw]
 cases mayN name <;> cases z49 t <;> cases t.contains 0 <;> rfl⟩
end Go.Av
