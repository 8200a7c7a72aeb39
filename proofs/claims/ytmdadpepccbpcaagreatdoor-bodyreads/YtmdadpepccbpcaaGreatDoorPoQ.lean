import Derived.Test.YtmdadpepccbpcaaGreatDoorPoP
namespace Go.Av
set_option linter.unusedSimpArgs false
set_option linter.unusedVariables false
section
variable (m0:Int)
end
section
set_option linter.unusedSimpArgs false
end
section
set_option linter.unusedSimpArgs false
end
section
theorem like3 (a:LI):z11 a a=true:=dT rfl
theorem qQX {k cs:Int} {s:LU} (h:s.length≤300000):qqq k cs s=true∧qqr k cs s=true∧qul (z12 k cs s) (z12 k cs s)=true :=
 ⟨dT h,dT h,qn (yL (qFg k cs s) (by omega))⟩
theorem qQY:∀ (h0:Int×(Int×Unit)) (s1:LU) (names2:List LU),∃ n,z6_sh n h0 s1 names2=qzM (z6 h0 s1 names2):=fun h s ns=>⟨0,by
 have z1:((decide ((0:Int)≤(0:Int)))&&(decide ((0:Int) < (2:Nat))))=true:=rfl;have z2:((decide ((0:Int)≤(1:Int)))&&(decide ((1:Int) < (2:Nat))))=true:=rfl;unfold z6_sh qmg qmf qdJ qdI
 by_cases h600:(600:Int) < ((s.length:Nat):Int)
 ·rw[dT h600];rfl
 rw[dF h600,z1,z2];generalize List.getD ns (Int.toNat (0:Int)) ([]:LU)=a;generalize List.getD ns (Int.toNat (1:Int)) ([]:LU)=b
 by_cases ha:(100:Int) < ((a.length:Nat):Int)
 ·rw[dT ha];rfl
 by_cases hb:(100:Int) < ((b.length:Nat):Int)
 ·rw[dF ha,dT hb];rfl
 have hl:s.length≤600:=by omega
 obtain⟨k1,k2,k3⟩:=qQX (k:=h.1) (cs:=h.2.1) (s:=s) (by omega);obtain⟨j1,j2,j3⟩:=qQX (k:=(z43 a).1) (cs:=(z44 b).1) (s:=s) (by omega);have n1:quC a b s=true:=by unfold quC;rw[qn (show a.length≤1048576 by omega),qn (show b.length≤1048576 by omega),dT (by omega)];rfl
 have n2:qzB a b s=true:=n1;have n3:qul (z21 a b s) (z21 a b s)=true:=j3;have c1:qEZ h.1 s=true:=qn (by omega);have c2:qFa h.1 s=true:=c1;rw[dF ha,dF hb,show z20 h.1 h.2.1 s=z12 h.1 h.2.1 s from rfl,show z22 a b s=z21 a b s from rfl,show z23 h.1 s=z19 h.1 s from rfl,k1,k2,k3,n1,n2,n3,c1,c2,like3,like3,beq_self_eq_true];rfl⟩
end
end Go.Av
