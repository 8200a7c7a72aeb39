import Derived.Test.YtnfehbljinflbaaGreatDoorRRRRErEvA
import Derived.Test.YtnfehbljinflbaaGreatDoorRRRREtN
import Derived.Test.YtnfehbljinflbaaGreatDoorRRRRProg
import Derived.KernelRfl
namespace Go.Av
set_option linter.unusedSimpArgs false
noncomputable section
open Go.Proofs
set_option maxRecDepth 100000
set_option linter.unusedVariables false
def E_z82:EnvP:=eQ [(116,s_z116)] 8 (some [4]) nC nC nP
def C_z82:Code:=cO Tryz.f82
def R_z82:Array ResultVar:=Tryz.f82.results
theorem qID (n:Nat) (s0:List UInt8) (o0:Lab) (sep1:List UInt8) (o1:Lab):evFnP E_z82 n C_z82 R_z82 [db s0 o0,db sep1 o1]=qDg n s0 sep1:=by
 kernel_rfl
theorem qyI:qf G Tryz.prog 82 s_z82:=by
 refine sQ (E:=E_z82) (c:=C_z82) rfl (fun w S hg=>(qb (quk w S hg) qc)) Tryz.func82 ?_;intro avs r h;unfold s_z82 at h;split at h
 ·obtain ⟨hp,rfl⟩:=yj h;obtain ⟨n,hn⟩:=qDQ _ _ hp;exact ⟨n,_,(qID n _ _ _ _).trans hn,.inl rfl⟩
 ·cases h
def qFs:EnvP:=eQ [] 12 (some [2]) nC nC nP
def qFt:Code:=cO Tryz.f118
def qIE:Array ResultVar:=Tryz.f118.results
theorem qFu (n:Nat) (c0:UInt8) (o0:Lab):evFnP qFs n qFt qIE [di c0 o0]=qvK n c0:=by
 kernel_rfl
theorem qlV:qf G Tryz.prog 118 s_z118:=by
 refine sQ (E:=qFs) (c:=qFt) rfl (fun w S hg=>qc) Tryz.func118 ?_;intro avs r h;unfold s_z118 at h;split at h <;> cases h
 obtain ⟨n,hn⟩:=qzV _;exact ⟨n,_,(qFu n _ _).trans hn,.inl rfl⟩
def E_z87:EnvP:=eQ [(83,s_z83),(118,s_z118)] 22 (some [2]) (fun x=>if x=3 then some [3,8,9,10] else none) (fun x=>if x=0 then some [3] else if x=1 then some [3,8,9,10] else none) (fun x=>if x=7 then some (.psl 5 (.leaf .byte)) else none)
def C_z87:Code:=cO Tryz.f87
def R_z87:Array ResultVar:=Tryz.f87.results
noncomputable def qlW (K:Ex→Fr→Option AV):=fun out3=>K (.exit 0) (frOf [(3,(.pv (.psl 5 (.leaf .byte)) out3 none))])
def qpK (n:Nat):Ex→Fr→Option AV:=qm 0 (E_z87.cutb 0) (kSeq (evCP E_z87 (evLP E_z87 n) (sub C_z87 [1,1,1])) (kFnP E_z87 R_z87))
def qul (out3:List UInt8) (s9:Int) (s10:Int):Fr:=frOf [(3,(.pv (.psl 5 (.leaf .byte)) out3 none)),(8,(.pval 3 [])),(9,dc s9),(10,dc s10)]
theorem qyJ (K:Ex→Fr→Option AV):∀ (n:Nat) (out3:List UInt8) (s9:Int) (s10:Int),evLP E_z87 n (sub C_z87 [1,1,0,1,0,0]) K (qul out3 s9 s10)=qkS (qlW K) n out3 s9 s10:=by
 intro n;induction n with
 | zero=>intros; rfl
 | succ n IH =>
 intro out3 s9 s10;have ih:(fun out3 s9 s10=>evLP E_z87 n (sub C_z87 [1,1,0,1,0,0]) K (qul out3 s9 s10))=qkS (qlW K) n:=by
  funext out3 s9 s10;exact IH out3 s9 s10
 show _=qfo (qlW K) (qkS (qlW K) n) n out3 s9 s10;rw [← ih];kernel_rfl
theorem qry (n:Nat) (out3:List UInt8):(qpK n) (.exit 0) (frOf [(3,(.pv (.psl 5 (.leaf .byte)) out3 none))])=qhG n out3:=by
 kernel_rfl
theorem qIF (n:Nat) (s0:List UInt8) (o0:Lab):evFnP E_z87 n C_z87 R_z87 [db s0 o0]=qzG n s0:=by
 unfold qzG;rw [show qkS (qhG n) n=(fun out3 s9 s10=>evLP E_z87 n (sub C_z87 [1,1,0,1,0,0]) (qpK n) (qul out3 s9 s10)) from by
  funext out3 s9 s10;refine Eq.trans ?_ (qyJ (qpK n) n out3 s9 s10).symm;rw [show (qlW (qpK n))=(qhG n) from by
   funext out3;exact qry n out3]
  all_goals kernel_rfl]
 kernel_rfl
theorem qpL:qf G Tryz.prog 87 s_z87:=by
 refine sQ (E:=E_z87) (c:=C_z87) rfl (fun w S hg=>(qb (qgl w S hg) (qb (qlV w S hg) qc))) Tryz.func87 ?_;intro avs r h;unfold s_z87 at h;split at h
 ·obtain ⟨hp,rfl⟩:=yj h;obtain ⟨n,hn⟩:=qDO _ hp;exact ⟨n,_,(qIF n _ _).trans hn,.inl rfl⟩
 ·cases h
def E_z84:EnvP:=eQ [(87,s_z87)] 10 (some [2]) nC (fun x=>if x=0 then some [] else none) nP
def C_z84:Code:=cO Tryz.f84
def R_z84:Array ResultVar:=Tryz.f84.results
theorem qIG (n:Nat) (s0:List UInt8) (o0:Lab):evFnP E_z84 n C_z84 R_z84 [db s0 o0]=qDh n s0:=by
 kernel_rfl
theorem qyK:qf G Tryz.prog 84 s_z84:=by
 refine sQ (E:=E_z84) (c:=C_z84) rfl (fun w S hg=>(qb (qpL w S hg) qc)) Tryz.func84 ?_;intro avs r h;unfold s_z84 at h;split at h
 ·obtain ⟨hp,rfl⟩:=yj h;obtain ⟨n,hn⟩:=qDR _ hp;exact ⟨n,_,(qIG n _ _).trans hn,.inl rfl⟩
 ·cases h
def E_z97:EnvP:=eQ [] 46 (some [2]) nC (fun x=>if x=0 then some [3] else none) nP
def C_z97:Code:=cO Tryz.f97
def R_z97:Array ResultVar:=Tryz.f97.results
theorem qIH (n:Nat) (c0:UInt8) (o0:Lab):evFnP E_z97 n C_z97 R_z97 [di c0 o0]=qDi n c0:=by
 kernel_rfl
theorem qyL:qf G Tryz.prog 97 s_z97:=by
 refine sQ (E:=E_z97) (c:=C_z97) rfl (fun w S hg=>qc) Tryz.func97 ?_;intro avs r h;unfold s_z97 at h;split at h <;> cases h
 obtain ⟨n,hn⟩:=qDK _;exact ⟨n,_,(qIH n _ _).trans hn,.inl rfl⟩
def qFv:EnvP:=eQ [(150,s_z150)] 8 (some [4]) nC nC nP
def qFw:Code:=cO Tryz.f145
def qII:Array ResultVar:=Tryz.f145.results
theorem qFx (n:Nat) (s0:List UInt8) (o0:Lab) (c1:UInt8) (o1:Lab):evFnP qFv n qFw qII [df s0 o0,di c1 o1]=qBk n s0 c1:=by
 kernel_rfl
theorem qum:qf G Tryz.prog 145 s_z145:=by
 refine sQ (E:=qFv) (c:=qFw) rfl (fun w S hg=>(qb (qlS w S hg) qc)) Tryz.func145 ?_;intro avs r h;unfold s_z145 at h;split at h <;> cases h
 obtain ⟨n,hn⟩:=qzO _ _;exact ⟨n,_,(qFx n _ _ _ _).trans hn,.inl rfl⟩
def qFy:EnvP:=eQ [(145,s_z145)] 8 (some [4]) nC nC nP
def qFz:Code:=cO Tryz.f126
def qIJ:Array ResultVar:=Tryz.f126.results
theorem qFA (n:Nat) (s0:List UInt8) (o0:Lab) (c1:UInt8) (o1:Lab):evFnP qFy n qFz qIJ [df s0 o0,di c1 o1]=qBl n s0 c1:=by
 kernel_rfl
theorem qlX:qf G Tryz.prog 126 s_z126:=by
 refine sQ (E:=qFy) (c:=qFz) rfl (fun w S hg=>(qb (qum w S hg) qc)) Tryz.func126 ?_;intro avs r h;unfold s_z126 at h;split at h <;> cases h
 obtain ⟨n,hn⟩:=qzP _ _;exact ⟨n,_,(qFA n _ _ _ _).trans hn,.inl rfl⟩
def E_z98:EnvP:=eQ [(126,s_z126)] 9 (some [4]) nC nC nP
def C_z98:Code:=cO Tryz.f98
def R_z98:Array ResultVar:=Tryz.f98.results
theorem qIK (n:Nat) (s0:List UInt8) (o0:Lab) (c1:UInt8) (o1:Lab):evFnP E_z98 n C_z98 R_z98 [df s0 o0,di c1 o1]=qHW n s0 c1:=by
 kernel_rfl
theorem qyM:qf G Tryz.prog 98 s_z98:=by
 refine sQ (E:=E_z98) (c:=C_z98) rfl (fun w S hg=>(qb (qlX w S hg) qc)) Tryz.func98 ?_;intro avs r h;unfold s_z98 at h;split at h <;> cases h
 obtain ⟨n,hn⟩:=qDL _ _;exact ⟨n,_,(qIK n _ _ _ _).trans hn,.inl rfl⟩
def E_z58:EnvP:=eQ [(97,s_z97),(98,s_z98)] 35 (some [2]) nC nC nP
def C_z58:Code:=cO Tryz.f58
def R_z58:Array ResultVar:=Tryz.f58.results
theorem qIL (n:Nat) (c0:UInt8) (o0:Lab):evFnP E_z58 n C_z58 R_z58 [di c0 o0]=qDj n c0:=by
 kernel_rfl
theorem qyN:qf G Tryz.prog 58 s_z58:=by
 refine sQ (E:=E_z58) (c:=C_z58) rfl (fun w S hg=>(qb (qyL w S hg) (qb (qyM w S hg) qc))) Tryz.func58 ?_;intro avs r h;unfold s_z58 at h;split at h <;> cases h
 obtain ⟨n,hn⟩:=qDM _;exact ⟨n,_,(qIL n _ _).trans hn,.inl rfl⟩
def E_z36:EnvP:=eQ [(58,s_z58)] 10 (some [4]) nC nC nP
def C_z36:Code:=cO Tryz.f36
def R_z36:Array ResultVar:=Tryz.f36.results
theorem qIM (n:Nat) (c0:UInt8) (o0:Lab) (kinds1:Int) (o1:Lab):evFnP E_z36 n C_z36 R_z36 [di c0 o0,de kinds1 o1]=qHX n c0 kinds1:=by
 kernel_rfl
theorem qjV:qf G Tryz.prog 36 s_z36:=by
 refine sQ (E:=E_z36) (c:=C_z36) rfl (fun w S hg=>(qb (qyN w S hg) qc)) Tryz.func36 ?_;intro avs r h;unfold s_z36 at h;split at h <;> cases h
 obtain ⟨n,hn⟩:=qDN _ _;exact ⟨n,_,(qIM n _ _ _ _).trans hn,.inl rfl⟩
def qjW:EnvP:=eQ [(36,s_z36)] 21 (some [4]) (fun x=>if x=3 then some [1,5,8,9,10] else none) (fun x=>if x=0 then some [5] else if x=1 then some [1,5,8,9,10] else none) nP
def qrz:Code:=cO Tryz.f122
def qFB:Array ResultVar:=Tryz.f122.results
noncomputable def qhl (K:Ex→Fr→Option AV):=fun n5=>K (.exit 0) (frOf [(5,dc n5)])
def qjX (n:Nat):Ex→Fr→Option AV:=qm 0 (qjW.cutb 0) (kSeq (evCP qjW (evLP qjW n) (sub qrz [1,1,1])) (kFnP qjW qFB))
def qnx (kinds1:Int) (n5:Int) (s8:List UInt8) (s9:Int) (s10:Int):Fr:=frOf [(1,dc kinds1),(5,dc n5),(8,da s8),(9,dc s9),(10,dc s10)]
theorem qun (K:Ex→Fr→Option AV):∀ (n:Nat) (kinds1:Int) (n5:Int) (s8:List UInt8) (s9:Int) (s10:Int),evLP qjW n (sub qrz [1,1,0,1,0,0]) K (qnx kinds1 n5 s8 s9 s10)=qeC (qhl K) n kinds1 n5 s8 s9 s10:=by
 intro n;induction n with
 | zero=>intros; rfl
 | succ n IH =>
 intro kinds1 n5 s8 s9 s10;have ih:(fun kinds1 n5 s8 s9 s10=>evLP qjW n (sub qrz [1,1,0,1,0,0]) K (qnx kinds1 n5 s8 s9 s10))=qeC (qhl K) n:=by
  funext kinds1 n5 s8 s9 s10;exact IH kinds1 n5 s8 s9 s10
 show _=qds (qhl K) (qeC (qhl K) n) n kinds1 n5 s8 s9 s10;rw [← ih];kernel_rfl
theorem qny (n:Nat) (n5:Int):(qjX n) (.exit 0) (frOf [(5,dc n5)])=qeD n n5:=by
 kernel_rfl
theorem qFC (n:Nat) (s0:List UInt8) (o0:Lab) (kinds1:Int) (o1:Lab):evFnP qjW n qrz qFB [db s0 o0,de kinds1 o1]=qqi n s0 kinds1:=by
 unfold qqi;rw [show qeC (qeD n) n=(fun kinds1 n5 s8 s9 s10=>evLP qjW n (sub qrz [1,1,0,1,0,0]) (qjX n) (qnx kinds1 n5 s8 s9 s10)) from by
  funext kinds1 n5 s8 s9 s10;refine Eq.trans ?_ (qun (qjX n) n kinds1 n5 s8 s9 s10).symm;rw [show (qhl (qjX n))=(qeD n) from by
   funext n5;exact qny n n5]
  all_goals kernel_rfl]
 kernel_rfl
theorem qup:qf G Tryz.prog 122 s_z122:=by
 refine sQ (E:=qjW) (c:=qrz) rfl (fun w S hg=>(qb (qjV w S hg) qc)) Tryz.func122 ?_;intro avs r h;unfold s_z122 at h;split at h
 ·obtain ⟨hp,rfl⟩:=yj h;obtain ⟨n,hn⟩:=qzW _ _ hp;exact ⟨n,_,(qFC n _ _ _ _).trans hn,.inl rfl⟩
 ·cases h
def E_z90:EnvP:=eQ [(122,s_z122)] 11 (some [4]) nC nC nP
def C_z90:Code:=cO Tryz.f90
def R_z90:Array ResultVar:=Tryz.f90.results
theorem qIN (n:Nat) (s0:List UInt8) (o0:Lab) (kinds1:Int) (o1:Lab):evFnP E_z90 n C_z90 R_z90 [db s0 o0,de kinds1 o1]=qDk n s0 kinds1:=by
 kernel_rfl
theorem qpM:qf G Tryz.prog 90 s_z90:=by
 refine sQ (E:=E_z90) (c:=C_z90) rfl (fun w S hg=>(qb (qup w S hg) qc)) Tryz.func90 ?_;intro avs r h;unfold s_z90 at h;split at h
 ·obtain ⟨hp,rfl⟩:=yj h;obtain ⟨n,hn⟩:=qDP _ _ hp;exact ⟨n,_,(qIN n _ _ _ _).trans hn,.inl rfl⟩
 ·cases h
def E_z85:EnvP:=eQ [(90,s_z90)] 13 (some [4]) nC nC nP
def C_z85:Code:=cO Tryz.f85
def R_z85:Array ResultVar:=Tryz.f85.results
theorem qIO (n:Nat) (s0:List UInt8) (o0:Lab) (kinds1:Int) (o1:Lab):evFnP E_z85 n C_z85 R_z85 [db s0 o0,de kinds1 o1]=qDl n s0 kinds1:=by
 kernel_rfl
theorem qyO:qf G Tryz.prog 85 s_z85:=by
 refine sQ (E:=E_z85) (c:=C_z85) rfl (fun w S hg=>(qb (qpM w S hg) qc)) Tryz.func85 ?_;intro avs r h;unfold s_z85 at h;split at h
 ·obtain ⟨hp,rfl⟩:=yj h;obtain ⟨n,hn⟩:=qDS _ _ hp;exact ⟨n,_,(qIO n _ _ _ _).trans hn,.inl rfl⟩
 ·cases h
def E_z51:EnvP:=eQ [(82,s_z82),(83,s_z83),(84,s_z84),(85,s_z85)] 64 (some [2,3]) nC (fun x=>if x=0 then some [2,5] else none) nP
def C_z51:Code:=cO Tryz.f51
def R_z51:Array ResultVar:=Tryz.f51.results
theorem qIP (n:Nat) (s0:List UInt8) (o0:Lab):evFnP E_z51 n C_z51 R_z51 [db s0 o0]=qDm n s0:=by
 kernel_rfl
theorem qgm:qf G Tryz.prog 51 s_z51:=by
 refine sQ (E:=E_z51) (c:=C_z51) rfl (fun w S hg=>(qb (qyI w S hg) (qb (qgl w S hg) (qb (qyK w S hg) (qb (qyO w S hg) qc))))) Tryz.func51 ?_;intro avs r h;unfold s_z51 at h;split at h
 ·obtain ⟨hp,rfl⟩:=yj h;obtain ⟨n,hn⟩:=qDT _ hp;exact ⟨n,_,(qIP n _ _).trans hn,.inl rfl⟩
 ·cases h
end
end Go.Av
