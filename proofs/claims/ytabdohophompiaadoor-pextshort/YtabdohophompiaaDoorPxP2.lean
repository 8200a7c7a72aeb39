import Derived.Test.YtabdohophompiaaDoorPxP1
namespace Go.Av
set_option linter.unusedSimpArgs false
set_option linter.unusedVariables false
theorem qrM (name:List UInt8) (n:Int) (e:Bool):(nameL name n e).length≤name.length+4:=by
 have hd:=qiI n;unfold nameL;cases decide (0≤n) <;> cases e <;> simp <;> omega
theorem qtL:∀ (p0:(List UInt8)×(Int×(Bool×((List UInt8)×Unit)))),(qnF p0=true)→∃ n,quL n p0=qia (z25 p0):=fun p h=>⟨0,by
 unfold qnF at h;simp only [yf,ym] at h;obtain ⟨h1,h2⟩:=h;have hl:=qao h1;have hd:=qiI p.2.1;unfold quL qbP z25 nameL room;rw [show qeY p.1=true from qap (by omega)];unfold z19 z46
 by_cases hn:0≤p.2.1
 ·rw [show qnE (p.1++[42]) p.2.1 10=true from by
   unfold qnE;rw [qap (by simp; omega),qyC ⟨hn,h2⟩];rfl]
  rw [dT hn];simp only [yn,yg,List.length_nil];rw [dT (by omega),dT (by omega)];simp only [yi,yc];cases p.2.2.1 with
  | true=>simp only [yc,yl,List.singleton_append]
  | false=>simp only [yd,yl,List.singleton_append,yE]
 ·rw [dF hn];simp only [yn,yg,List.length_nil];rw [dT (by omega)];simp only [yi,yc,yd,yE];cases p.2.2.1 <;> simp⟩
theorem qfd (name:List UInt8) (n:Int) (cs:List UInt8):(headL name n cs).length≤name.length+cs.length+7:=by
 have hd:=qrM name n true;unfold headL;cases decide (0 < n) <;> simp <;> omega
theorem qtM:∀ (name0:List UInt8) (n1:Int) (charset2:Int),(qec name0 n1 charset2=true)→∃ n,quO n name0 n1 charset2=qou (z11 name0 n1 charset2):=fun name n cs h=>⟨0,by
 have h':=h;unfold qec at h;simp only [yf,ym] at h;obtain ⟨h1,h2⟩:=h;have hl:=qao h1;have hd:=qrM name n true;have hc:=qdH cs;unfold quO qcP z11 headL room;rw [show qnF (name,(n,(true,(([]:List UInt8),()))))=true from h'];unfold z25;simp only [yn,yg,List.length_nil]
 by_cases hn:0 < n
 ·rw [dT hn];simp (disch:=omega) only [dT,yi,yc]
 ·rw [dF hn];simp (disch:=omega) only [dT,yi,yc,yd,yl,List.singleton_append,List.cons_append,List.nil_append]⟩
theorem qwy (n:Nat):decide ((0:Int) < (n:Int))=decide (0 < n):=by
 rcases Nat.eq_zero_or_pos n with rfl | h
 ·rfl
 ·rw [dT (show (0:Int) < (n:Int) by omega),dT h]
theorem qtN (n k:Nat):decide ((n:Int)≤(k:Int))=decide (n≤k):=by
 by_cases h:n≤k
 ·rw [dT h,dT (by omega)]
 ·rw [dF h,dF (by omega)]
theorem qtO:∀ (name0:List UInt8),(qrh name0=true)→∃ n,quf n name0=qkw (z14 name0):=fun s h=>⟨0,by
 unfold quf z14 mayN;rw [qwy,show decide (((s.length:Nat):Int)≤30)=decide (s.length≤30) from qtN _ 30,show qlf s 256=true from h];unfold z29;cases decide (0 < s.length) <;> cases decide (s.length≤30) <;> rfl⟩
theorem qtP:∀ (s0:List Int) (v1:Int),(qri s0 v1=true)→∃ n,qul n s0 v1=qsa (z16 s0 v1):=fun s v h=>⟨0,by
 unfold qul;rw [show qlb s v=true from h];rfl⟩
theorem qtQ:∀ (c0:Int),∃ n,qug n c0=qoe (z33 c0):=fun c=>⟨0,by
 unfold qug z33;cases decide (c < 32) <;> rfl⟩
theorem qlz:∀ (t:List Int),(qfA t=true)→∃ n,qeq n t=qbD (qm t):=fun t h=>⟨t.length+1,by
 have hl:=qJ (l:=t) h;unfold qeq qm;refine qdI (qbk (L:=fun n i=>qbh qbD (qaW (t.length+1)) n t ((t.length:Nat):Int) i) hl (fun n i hi=>?_) (fun n=>?_) t.length 0 (t.length+1) (by omega) (by omega)) rfl
 ·show qay _ _ _ n _ _ _=_;unfold qay;simp (disch:=omega) only [dT,yc,yi,tn,qE];cases z33 (t.getD i 0) <;> rfl
 ·show qay _ _ _ n _ _ _=_;unfold qay;rw [dF (by omega)];rfl⟩
theorem qfe (p:Int→Bool):∀ (t:List Int) (i:Nat),decide (0≤qan (fun c => !(p c)) t i)=t.any p
 | [],i=>rfl
 | c :: r,i=>by
  have hstep:qan (fun c => !(p c)) (c :: r) (i:Int)=bif !(p c) then qan (fun c => !(p c)) r ((i+1:Nat):Int) else (i:Int):=rfl
  rw [hstep,List.any_cons];cases p c with
  | true =>
   simp only [Bool.not_true,yd,Bool.true_or];exact dT (by omega)
  | false =>
   simp only [Bool.not_false,yc,Bool.false_or];exact qfe p r (i+1)
theorem qtR:∀ (s0:List Int),(qrj s0=true)→∃ n,qum n s0=qsb (z32 s0):=fun s h=>⟨0,by
 unfold qum z32 qm;rw [show qfA s=true from h,show decide ((0:Int)≤qan (fun c => !(z33 c)) s 0)=s.any z33 from qfe _ s 0];rfl⟩
theorem qtS:∀ (t0:List Int),(qrk t0=true)→∃ n,qun n t0=qsc (z17 t0):=fun t h=>⟨0,by
 unfold qun;rw [show qrj t=true from h];rfl⟩
theorem qwz (v:Int):∀ t:List Int,(t.any fun x=>v==x)=t.contains v
 | []=>rfl
 | c :: r=>by rw [List.any_cons,List.contains_cons,qwz v r]
theorem qlA (t:List Int) (v:Int):z16 t v=t.contains v:=by
 unfold z16 z31;rw [show decide ((0:Int)≤qan (fun x => !(v==x)) t 0)=t.any (fun x=>v==x) from qfe _ t 0,qwz]
theorem qwA:∀ (name0:List UInt8) (t1:List Int),(z7_ok name0 t1=true)→∃ n,z7_sh n name0 t1=qoh (z7 name0 t1):=fun name t h=>⟨0,by
 unfold z7_ok at h;simp only [yf] at h;unfold z7_sh z7 qfB;rw [show qrh name=true from h.1,show qlc t=true from h.2,show qri t 0=true from h.2,qlA,show z14 name=mayN name from rfl];cases mayN name <;> cases z15 t <;> cases t.contains 0 <;> rfl⟩
end Go.Av
