import Derived.Test.YtmdadpepccbpcaaGreatDoorPoP
namespace Go.Av
set_option linter.unusedSimpArgs false
set_option linter.unusedVariables false
section
variable (m0:Int)
end
section
theorem qLB (p:Option Int) (c:Int) (r:LI):z16_l p (c :: r)=(bif (c==10)&&(p==some 13) then [] else bif (c==13)||(c==10) then [13,10] else [c])++z16_l (some c) r:=by
 conv=>lhs; unfold z16_l
end
section
set_option linter.unusedSimpArgs false
end
section
theorem qLC:∀ (t:LI) (p:Option Int),(z16_l p t).length≤2*t.length
 | [],p=>by rw [qDB]; exact Nat.zero_le _
 | c :: r,p=>by
  have:=qLC r (some c);rw [qLB,yn,yg];have h2:(bif (c==10)&&(p==some 13) then [] else bif (c==13)||(c==10) then [13,10] else [c]:LI).length≤2:=by
   cases (c==10)&&(p==some 13)
   ·cases (c==13)||(c==10)
    ·exact Nat.le_succ 1
    ·exact yv _
   ·exact Nat.zero_le _
  omega
theorem like1 (a:LU):z10 a a=true:=dT rfl
theorem like3 (a:LI):z11 a a=true:=dT rfl
theorem qLD:∀ (h0:Int×(Int×Unit)) (t1:LI),(z4_ok h0 t1=true)→∃ n,z4_sh n h0 t1=qpe (z4 h0 t1):=fun h t hi=>⟨0,by
 have hi:i32s t=true:=hi;unfold z4_sh
 by_cases h300:(300:Int) < ((t.length:Nat):Int)
 ·rw [dT h300]; rfl
 ·rw [dF h300];have hl:t.length≤300:=by omega
  have k2:qtb h.1 h.2.1 t=true:=by unfold qtb; rw [dT (by omega),hi]; rfl
  have k3:qzP (z13 h.1 h.2.1 t).1 (z13 h.1 h.2.1 t).1=true:=qau (yL (qFH _ _ t (by omega)) (by omega));have k4:qBt h.1 h.2.1 t=true:=dT (show t.length≤16384 by omega);have k5:qBo t=true:=qau (by omega);have k6:qBp t=true:=qau (by omega);have k7:qzO (z16 t) (z16 t)=true:=qau (by have:(z16 t).length≤_:=qLC t none; omega);rw [show z14 h.1 h.2.1 t=z13 h.1 h.2.1 t from rfl,show z17 t=z16 t from rfl,show z15 h.1 h.2.1 t=((z13 h.1 h.2.1 t).2==0) from rfl,layok (show t.length≤4096 by omega),k2,k3,k4,k5,k6,k7,like1,like3,beq_self_eq_true,beq_self_eq_true];rfl⟩
end
end Go.Av
