import Derived.Test.YtcfhfjjohmdaoaaDoorFwEvG
import Derived.Test.YtcfhfjjohmdaoaaDoorFwWalk
import Derived.Test.YtcfhfjjohmdaoaaDoorProg
import Derived.KernelRfl
namespace Go.Av
set_option linter.unusedSimpArgs false
noncomputable section
open Go.Proofs
set_option maxRecDepth 100000
set_option linter.unusedVariables false
def E_z11:EnvP:=eQ [(15,s_z15),(34,s_z34),(42,s_z42),(43,s_z43),(44,s_z44),(45,s_z45),(46,s_z46),(47,s_z47),(48,s_z48),(49,s_z49)] 44 (some [4]) nC nC nP
def C_z11:Code:=cO Tryd.f11
def R_z11:Array ResultVar:=Tryd.f11.results
theorem qxn (n:Nat) (line0:List UInt8) (o0:Lab) (depth1:Int) (o1:Lab):evFnP E_z11 n C_z11 R_z11 [db line0 o0,de depth1 o1]=qvN n line0 depth1:=by
 kernel_rfl
theorem qsc:qp G Tryd.prog 11 s_z11:=by
 refine sQ (E:=E_z11) (c:=C_z11) rfl (fun w S hg=>(qb (qin w S hg) (qb (qfv w S hg) (qb (qij w S hg) (qb (qio w S hg) (qb (qik w S hg) (qb (qip w S hg) (qb (qmk w S hg) (qb (qmB w S hg) (qb (qsw w S hg) (qb (qiq w S hg) ql))))))))))) Tryd.func11 ?_;intro avs r h;unfold s_z11 at h;split at h <;> cases h
 obtain ⟨n,hn⟩:=qvs _ _;exact ⟨n,_,(qxn n _ _ _ _).trans hn,.inl rfl⟩
def E_z12:EnvP:=eQ [(34,s_z34),(35,s_z35),(36,s_z36),(38,s_z38),(39,s_z39),(40,s_z40)] 32 (some [4]) nC nC nP
def C_z12:Code:=cO Tryd.f12
def R_z12:Array ResultVar:=Tryd.f12.results
theorem qxo (n:Nat) (l0:List (Int×((List UInt8)×Unit))) (o0:Lab) (width1:Int) (o1:Lab):evFnP E_z12 n C_z12 R_z12 [.dat (.sl (.pair (.int .i64) (.pair (.sl .byte) .unit))) l0 o0,de width1 o1]=qvO n l0 width1:=by
 kernel_rfl
theorem qsd:qp G Tryd.prog 12 s_z12:=by
 refine sQ (E:=E_z12) (c:=C_z12) rfl (fun w S hg=>(qb (qfv w S hg) (qb (qmz w S hg) (qb (qil w S hg) (qb (qmG w S hg) (qb (qim w S hg) (qb (qmI w S hg) ql))))))) Tryd.func12 ?_;intro avs r h;unfold s_z12 at h;split at h <;> cases h
 obtain ⟨n,hn⟩:=qvt _ _;exact ⟨n,_,(qxo n _ _ _ _).trans hn,.inl rfl⟩
end
end Go.Av
