import Derived.Test.YtmdadpepccbpcaaGreatDoorPoP
namespace Go.Av
set_option linter.unusedSimpArgs false
set_option linter.unusedVariables false
section
variable (m0:Int)
end
section
set_option linter.unusedSimpArgs false
end
section
set_option linter.unusedSimpArgs false
end
section
theorem like1 (a:LU):z10 a a=true:=dT rfl
theorem like3 (a:LI):z11 a a=true:=dT rfl
theorem qXp {k cs:Int} {s:LU} (h:s.length≤300000):qrA k cs s=true∧qwf k cs s=true∧qqo (z12 k cs s) (z12 k cs s)=true :=
 ⟨dT h,dT h,qm (yL (qmf k cs s) (by omega))⟩
theorem qUz:∀ (t0:LI),(z3_ok t0=true)→∃ n,z3_sh n t0=qBy (z3 t0):=fun t hi=>⟨0,by
 have hi:i32s t=true:=hi;unfold z3_sh
 by_cases h200:(200:Int) < ((t.length:Nat):Int)
 ·rw[dT h200];rfl
 have hl:t.length≤4096:=by omega
 have k1:z8_ok t=true:=dT hl;have k2:z9_ok t=true:=by unfold z9_ok;rw[dT hl,hi];rfl
 rw[dF h200,show z9 t=z8 t from rfl,k1,k2,beq_self_eq_true,beq_self_eq_true,like1,beq_self_eq_true];have hw:∃ k cs,(z8 t).2.2.2=0→(z8 t).1=k∧(z8 t).2.1=cs∧(z8 t).2.2.1=(z13 k cs t).1∧z12 k cs (z13 k cs t).1=t:=by
  unfold z8;cases e0:(z24 t).2 != 0 with
  | true=>exact⟨0,0,fun h=>absurd (show (z24 t).2=0 from h) (by simpa using e0)⟩
  | false =>
   have e0':(z24 t).2=0:=by simpa using e0
   cases e1:qkf 1 (z24 t).1 t with
   | true =>
    unfold qkf at e1;simp only[yf,ym] at e1;exact⟨1,(z24 t).1,fun _=>⟨rfl,rfl,rfl,e1.2⟩⟩
   | false =>
    cases e2:qkf 2 (z24 t).1 t with
    | true =>
     unfold qkf at e2;simp only[yf,ym] at e2;exact⟨2,(z24 t).1,fun _=>⟨rfl,rfl,rfl,e2.2⟩⟩
    | false=>exact⟨3,(z24 t).1,fun _=>⟨rfl,rfl,rfl,(qoR hi e0').2⟩⟩
 have hlen:(z8 t).2.2.1.length≤300000:=by
  unfold z8;cases (z24 t).2 != 0 with
  | true=>exact Nat.zero_le _
  | false =>
   cases qkf 1 (z24 t).1 t with
   | true=>exact qeZ _ _ t hl
   | false =>
    cases qkf 2 (z24 t).1 t with
    | true=>exact qeZ _ _ t hl
    | false=>exact qeZ _ _ t hl
 have k3:qFb (z8 t).2.2.1 (z8 t).2.2.1=true:=qm (by omega);rw[k3];simp only[yc,yd,yi]
 by_cases h0:(z8 t).2.2.2=0
 ·obtain⟨k,cs,hh⟩:=hw;obtain⟨a1,a2,a3,a4⟩:=hh h0;rw[a3] at hlen ⊢;rw[a1,a2,h0,a4];obtain⟨j1,_,j3⟩:=qXp (k:=k) (cs:=cs) hlen;have lok:qqo t t=true:=qm (by omega);rw[j1,lok,like3];rfl
 ·rw[show ((z8 t).2.2.2 != (0:Int))=true by simpa using h0];rfl⟩
end
end Go.Av
