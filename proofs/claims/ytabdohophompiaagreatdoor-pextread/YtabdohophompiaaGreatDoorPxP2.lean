import Derived.Test.YtabdohophompiaaGreatDoorPxP1
namespace Go.Av
set_option linter.unusedSimpArgs false
set_option linter.unusedVariables false
theorem qsx (name:List UInt8) (n:Int) (e:Bool):(nameL name n e).length≤name.length+4:=by
 have hd:=qiO n;unfold nameL;cases decide (0≤n) <;> cases e <;> simp <;> omega
theorem qzX:∀ (p0:(List UInt8)×(Int×(Bool×((List UInt8)×Unit)))),(qsf p0=true)→∃ n,qBc n p0=qkC (z55 p0):=fun p h=>⟨0,by
 unfold qsf at h;simp only [yf,ym] at h;obtain ⟨h1,h2⟩:=h;have hl:=qao h1;have hd:=qiO p.2.1;unfold qBc qcv z55 nameL room;rw [show qgt p.1=true from qy (by omega)];unfold z53 z95
 by_cases hn:0≤p.2.1
 ·rw [show qse (p.1++[42]) p.2.1 10=true from by
   unfold qse;rw [qy (by simp; omega),qGX ⟨hn,h2⟩];rfl]
  rw [dT hn];simp only [yn,yg,List.length_nil];rw [dT (by omega),dT (by omega)];simp only [yi,yc];cases p.2.2.1 with
  | true=>simp only [yc,yl,List.singleton_append]
  | false=>simp only [yd,yl,List.singleton_append,yG]
 ·rw [dF hn];simp only [yn,yg,List.length_nil];rw [dT (by omega)];simp only [yi,yc,yd,yG];cases p.2.2.1 <;> simp⟩
theorem qgy (name:List UInt8) (n:Int) (cs:List UInt8):(headL name n cs).length≤name.length+cs.length+7:=by
 have hd:=qsx name n true;unfold headL;cases decide (0 < n) <;> simp <;> omega
theorem qzY:∀ (name0:List UInt8) (n1:Int) (charset2:Int),(qfr name0 n1 charset2=true)→∃ n,qBf n name0 n1 charset2=qtD (z29 name0 n1 charset2):=fun name n cs h=>⟨0,by
 have h':=h;unfold qfr at h;simp only [yf,ym] at h;obtain ⟨h1,h2⟩:=h;have hl:=qao h1;have hd:=qsx name n true;have hc:=qcX cs;unfold qBf qdJ z29 headL room;rw [show qsf (name,(n,(true,(([]:List UInt8),()))))=true from h'];unfold z55;simp only [yn,yg,List.length_nil]
 by_cases hn:0 < n
 ·rw [dT hn];simp (disch:=omega) only [dT,yi,yc]
 ·rw [dF hn];simp (disch:=omega) only [dT,yi,yc,yd,yl,List.singleton_append,List.cons_append,List.nil_append]⟩
theorem qEz (n:Nat):decide ((0:Int) < (n:Int))=decide (0 < n):=by
 rcases Nat.eq_zero_or_pos n with rfl | h
 ·rfl
 ·rw [dT (show (0:Int) < (n:Int) by omega),dT h]
theorem qzZ (n k:Nat):decide ((n:Int)≤(k:Int))=decide (n≤k):=by
 by_cases h:n≤k
 ·rw [dT h,dT (by omega)]
 ·rw [dF h,dF (by omega)]
theorem qAa:∀ (name0:List UInt8),(qwq name0=true)→∃ n,qAT n name0=qnX (z18 name0):=fun s h=>⟨0,by
 unfold qAT z18 mayN;rw [qEz,show decide (((s.length:Nat):Int)≤30)=decide (s.length≤30) from qzZ _ 30,show qoK s 256=true from h];unfold z36;cases decide (0 < s.length) <;> cases decide (s.length≤30) <;> rfl⟩
theorem qAb:∀ (s0:List Int) (v1:Int),(qwr s0 v1=true)→∃ n,qAU n s0 v1=qyv (z50 s0 v1):=fun s v h=>⟨0,by
 unfold qAU;rw [show qoG s v=true from h];rfl⟩
theorem qAc:∀ (c0:Int),∃ n,qAM n c0=qtd (z91 c0):=fun c=>⟨0,by
 unfold qAM z91;cases decide (c < 32) <;> rfl⟩
theorem qly:∀ (t:List Int),(qcI t=true)→∃ n,qdG n t=qbw (qo t):=fun t h=>⟨t.length+1,by
 have hl:=qp (l:=t) h;unfold qdG qo;refine qeY (qbE (L:=fun n i=>qaY qbw (qaZ (t.length+1)) n t ((t.length:Nat):Int) i) hl (fun n i hi=>?_) (fun n=>?_) t.length 0 (t.length+1) (by omega) (by omega)) rfl
 ·show qax _ _ _ n _ _ _=_;unfold qax;simp (disch:=omega) only [dT,yc,yi,tn,qm];cases z91 (t.getD i 0) <;> rfl
 ·show qax _ _ _ n _ _ _=_;unfold qax;rw [dF (by omega)];rfl⟩
theorem qgz (p:Int→Bool):∀ (t:List Int) (i:Nat),decide (0≤qaC (fun c => !(p c)) t i)=t.any p
 | [],i=>rfl
 | c :: r,i=>by
  have hstep:qaC (fun c => !(p c)) (c :: r) (i:Int)=bif !(p c) then qaC (fun c => !(p c)) r ((i+1:Nat):Int) else (i:Int):=rfl
  rw [hstep,List.any_cons];cases p c with
  | true =>
   simp only [Bool.not_true,yd,Bool.true_or];exact dT (by omega)
  | false =>
   simp only [Bool.not_false,yc,Bool.false_or];exact qgz p r (i+1)
theorem qAd:∀ (s0:List Int),(qws s0=true)→∃ n,qAW n s0=qyw (z90 s0):=fun s h=>⟨0,by
 unfold qAW z90 qo;rw [show qcI s=true from h,show decide ((0:Int)≤qaC (fun c => !(z91 c)) s 0)=s.any z91 from qgz _ s 0];rfl⟩
theorem qAe:∀ (t0:List Int),(qwt t0=true)→∃ n,qAX n t0=qyx (z51 t0):=fun t h=>⟨0,by
 unfold qAX;rw [show qws t=true from h];rfl⟩
theorem qEA (v:Int):∀ t:List Int,(t.any fun x=>v==x)=t.contains v
 | []=>rfl
 | c :: r=>by rw [List.any_cons,List.contains_cons,qEA v r]
theorem qpy (t:List Int) (v:Int):z50 t v=t.contains v:=by
 unfold z50 z89;rw [show decide ((0:Int)≤qaC (fun x => !(v==x)) t 0)=t.any (fun x=>v==x) from qgz _ t 0,qEA]
theorem qAf:∀ (name0:List UInt8) (t1:List Int),(qiK name0 t1=true)→∃ n,qAV n name0 t1=qkB (z27 name0 t1):=fun name t h=>⟨0,by
 unfold qiK at h;simp only [yf] at h;unfold qAV z27 qcC;rw [show qwq name=true from h.1,show qoH t=true from h.2,show qwr t 0=true from h.2,qpy,show z18 name=mayN name from rfl];cases mayN name <;> cases z49 t <;> cases t.contains 0 <;> rfl⟩
end Go.Av
