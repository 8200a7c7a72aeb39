import Derived.Test.YtnfehbljinflbaaGreatDoorRRRRErEvA
import Derived.Test.YtnfehbljinflbaaGreatDoorRRRREtN
import Derived.Test.YtnfehbljinflbaaGreatDoorRRRRProg
import Derived.KernelRfl
namespace Go.Av
set_option linter.unusedSimpArgs false
noncomputable section
open Go.Proofs
set_option maxRecDepth 100000
set_option linter.unusedVariables false
def E_z82:EnvP:=eQ [(116,s_z116)] 8 (some [4]) nC nC nP
def C_z82:Code:=cO Tryz.f82
def R_z82:Array ResultVar:=Tryz.f82.results
theorem qIY (n:Nat) (s0:List UInt8) (o0:Lab) (sep1:List UInt8) (o1:Lab):evFnP E_z82 n C_z82 R_z82 [db s0 o0,db sep1 o1]=qDv n s0 sep1:=by
 kernel_rfl
theorem qyO:qg G Tryz.prog 82 s_z82:=by
 refine sQ (E:=E_z82) (c:=C_z82) rfl (fun w S hg=>(qb (qun w S hg) qc)) Tryz.func82 ?_;intro avs r h;unfold s_z82 at h;split at h
 ·obtain ⟨hp,rfl⟩:=yj h;obtain ⟨n,hn⟩:=qEh _ _ hp;exact ⟨n,_,(qIY n _ _ _ _).trans hn,.inl rfl⟩
 ·cases h
def qFK:EnvP:=eQ [] 12 (some [2]) nC nC nP
def qFL:Code:=cO Tryz.f118
def qIZ:Array ResultVar:=Tryz.f118.results
theorem qFM (n:Nat) (c0:UInt8) (o0:Lab):evFnP qFK n qFL qIZ [dm c0 o0]=qvQ n c0:=by
 kernel_rfl
theorem qlU:qg G Tryz.prog 118 s_z118:=by
 refine sQ (E:=qFK) (c:=qFL) rfl (fun w S hg=>qc) Tryz.func118 ?_;intro avs r h;unfold s_z118 at h;split at h <;> cases h
 obtain ⟨n,hn⟩:=qAf _;exact ⟨n,_,(qFM n _ _).trans hn,.inl rfl⟩
def E_z87:EnvP:=eQ [(83,s_z83),(118,s_z118)] 22 (some [2]) (fun x=>if x=3 then some [3,8,9,10] else none) (fun x=>if x=0 then some [3] else if x=1 then some [3,8,9,10] else none) (fun x=>if x=7 then some (.psl 5 (.leaf .byte)) else none)
def C_z87:Code:=cO Tryz.f87
def R_z87:Array ResultVar:=Tryz.f87.results
noncomputable def qlV (K:Ex→Fr→Option AV):=fun out3=>K (.exit 0) (frOf [(3,(.pv (.psl 5 (.leaf .byte)) out3 none))])
def qpL (n:Nat):Ex→Fr→Option AV:=qo 0 (E_z87.cutb 0) (kSeq (evCP E_z87 (evLP E_z87 n) (sub C_z87 [1,1,1])) (kFnP E_z87 R_z87))
def qup (out3:List UInt8) (s9:Int) (s10:Int):Fr:=frOf [(3,(.pv (.psl 5 (.leaf .byte)) out3 none)),(8,(.pval 3 [])),(9,dc s9),(10,dc s10)]
theorem qyP (K:Ex→Fr→Option AV):∀ (n:Nat) (out3:List UInt8) (s9:Int) (s10:Int),evLP E_z87 n (sub C_z87 [1,1,0,1,0,0]) K (qup out3 s9 s10)=qkR (qlV K) n out3 s9 s10:=by
 intro n;induction n with
 | zero=>intros; rfl
 | succ n IH =>
 intro out3 s9 s10;have ih:(fun out3 s9 s10=>evLP E_z87 n (sub C_z87 [1,1,0,1,0,0]) K (qup out3 s9 s10))=qkR (qlV K) n:=by
  funext out3 s9 s10;exact IH out3 s9 s10
 show _=qfn (qlV K) (qkR (qlV K) n) n out3 s9 s10;rw [← ih];kernel_rfl
theorem qrB (n:Nat) (out3:List UInt8):(qpL n) (.exit 0) (frOf [(3,(.pv (.psl 5 (.leaf .byte)) out3 none))])=qhE n out3:=by
 kernel_rfl
theorem qJa (n:Nat) (s0:List UInt8) (o0:Lab):evFnP E_z87 n C_z87 R_z87 [db s0 o0]=qzP n s0:=by
 unfold qzP;rw [show qkR (qhE n) n=(fun out3 s9 s10=>evLP E_z87 n (sub C_z87 [1,1,0,1,0,0]) (qpL n) (qup out3 s9 s10)) from by
  funext out3 s9 s10;refine Eq.trans ?_ (qyP (qpL n) n out3 s9 s10).symm;rw [show (qlV (qpL n))=(qhE n) from by
   funext out3;exact qrB n out3]
  all_goals kernel_rfl]
 kernel_rfl
theorem qpM:qg G Tryz.prog 87 s_z87:=by
 refine sQ (E:=E_z87) (c:=C_z87) rfl (fun w S hg=>(qb (qgi w S hg) (qb (qlU w S hg) qc))) Tryz.func87 ?_;intro avs r h;unfold s_z87 at h;split at h
 ·obtain ⟨hp,rfl⟩:=yj h;obtain ⟨n,hn⟩:=qEf _ hp;exact ⟨n,_,(qJa n _ _).trans hn,.inl rfl⟩
 ·cases h
def E_z84:EnvP:=eQ [(87,s_z87)] 10 (some [2]) nC (fun x=>if x=0 then some [] else none) nP
def C_z84:Code:=cO Tryz.f84
def R_z84:Array ResultVar:=Tryz.f84.results
theorem qJb (n:Nat) (s0:List UInt8) (o0:Lab):evFnP E_z84 n C_z84 R_z84 [db s0 o0]=qDw n s0:=by
 kernel_rfl
theorem qyQ:qg G Tryz.prog 84 s_z84:=by
 refine sQ (E:=E_z84) (c:=C_z84) rfl (fun w S hg=>(qb (qpM w S hg) qc)) Tryz.func84 ?_;intro avs r h;unfold s_z84 at h;split at h
 ·obtain ⟨hp,rfl⟩:=yj h;obtain ⟨n,hn⟩:=qEi _ hp;exact ⟨n,_,(qJb n _ _).trans hn,.inl rfl⟩
 ·cases h
def E_z97:EnvP:=eQ [] 46 (some [2]) nC (fun x=>if x=0 then some [3] else none) nP
def C_z97:Code:=cO Tryz.f97
def R_z97:Array ResultVar:=Tryz.f97.results
theorem qJc (n:Nat) (c0:UInt8) (o0:Lab):evFnP E_z97 n C_z97 R_z97 [dm c0 o0]=qDx n c0:=by
 kernel_rfl
theorem qyR:qg G Tryz.prog 97 s_z97:=by
 refine sQ (E:=E_z97) (c:=C_z97) rfl (fun w S hg=>qc) Tryz.func97 ?_;intro avs r h;unfold s_z97 at h;split at h <;> cases h
 obtain ⟨n,hn⟩:=qEb _;exact ⟨n,_,(qJc n _ _).trans hn,.inl rfl⟩
def qFN:EnvP:=eQ [(150,s_z150)] 8 (some [4]) nC nC nP
def qFO:Code:=cO Tryz.f145
def qJd:Array ResultVar:=Tryz.f145.results
theorem qFP (n:Nat) (s0:List UInt8) (o0:Lab) (c1:UInt8) (o1:Lab):evFnP qFN n qFO qJd [df s0 o0,dm c1 o1]=qBv n s0 c1:=by
 kernel_rfl
theorem quq:qg G Tryz.prog 145 s_z145:=by
 refine sQ (E:=qFN) (c:=qFO) rfl (fun w S hg=>(qb (qlR w S hg) qc)) Tryz.func145 ?_;intro avs r h;unfold s_z145 at h;split at h <;> cases h
 obtain ⟨n,hn⟩:=qzY _ _;exact ⟨n,_,(qFP n _ _ _ _).trans hn,.inl rfl⟩
def qFQ:EnvP:=eQ [(145,s_z145)] 8 (some [4]) nC nC nP
def qFR:Code:=cO Tryz.f126
def qJe:Array ResultVar:=Tryz.f126.results
theorem qFS (n:Nat) (s0:List UInt8) (o0:Lab) (c1:UInt8) (o1:Lab):evFnP qFQ n qFR qJe [df s0 o0,dm c1 o1]=qBw n s0 c1:=by
 kernel_rfl
theorem qlW:qg G Tryz.prog 126 s_z126:=by
 refine sQ (E:=qFQ) (c:=qFR) rfl (fun w S hg=>(qb (quq w S hg) qc)) Tryz.func126 ?_;intro avs r h;unfold s_z126 at h;split at h <;> cases h
 obtain ⟨n,hn⟩:=qzZ _ _;exact ⟨n,_,(qFS n _ _ _ _).trans hn,.inl rfl⟩
def E_z98:EnvP:=eQ [(126,s_z126)] 9 (some [4]) nC nC nP
def C_z98:Code:=cO Tryz.f98
def R_z98:Array ResultVar:=Tryz.f98.results
theorem qJf (n:Nat) (s0:List UInt8) (o0:Lab) (c1:UInt8) (o1:Lab):evFnP E_z98 n C_z98 R_z98 [df s0 o0,dm c1 o1]=qIr n s0 c1:=by
 kernel_rfl
theorem qyS:qg G Tryz.prog 98 s_z98:=by
 refine sQ (E:=E_z98) (c:=C_z98) rfl (fun w S hg=>(qb (qlW w S hg) qc)) Tryz.func98 ?_;intro avs r h;unfold s_z98 at h;split at h <;> cases h
 obtain ⟨n,hn⟩:=qEc _ _;exact ⟨n,_,(qJf n _ _ _ _).trans hn,.inl rfl⟩
def E_z58:EnvP:=eQ [(97,s_z97),(98,s_z98)] 35 (some [2]) nC nC nP
def C_z58:Code:=cO Tryz.f58
def R_z58:Array ResultVar:=Tryz.f58.results
theorem qJg (n:Nat) (c0:UInt8) (o0:Lab):evFnP E_z58 n C_z58 R_z58 [dm c0 o0]=qDy n c0:=by
 kernel_rfl
theorem qyT:qg G Tryz.prog 58 s_z58:=by
 refine sQ (E:=E_z58) (c:=C_z58) rfl (fun w S hg=>(qb (qyR w S hg) (qb (qyS w S hg) qc))) Tryz.func58 ?_;intro avs r h;unfold s_z58 at h;split at h <;> cases h
 obtain ⟨n,hn⟩:=qEd _;exact ⟨n,_,(qJg n _ _).trans hn,.inl rfl⟩
def E_z36:EnvP:=eQ [(58,s_z58)] 10 (some [4]) nC nC nP
def C_z36:Code:=cO Tryz.f36
def R_z36:Array ResultVar:=Tryz.f36.results
theorem qJh (n:Nat) (c0:UInt8) (o0:Lab) (kinds1:Int) (o1:Lab):evFnP E_z36 n C_z36 R_z36 [dm c0 o0,de kinds1 o1]=qIs n c0 kinds1:=by
 kernel_rfl
theorem qjT:qg G Tryz.prog 36 s_z36:=by
 refine sQ (E:=E_z36) (c:=C_z36) rfl (fun w S hg=>(qb (qyT w S hg) qc)) Tryz.func36 ?_;intro avs r h;unfold s_z36 at h;split at h <;> cases h
 obtain ⟨n,hn⟩:=qEe _ _;exact ⟨n,_,(qJh n _ _ _ _).trans hn,.inl rfl⟩
def qjU:EnvP:=eQ [(36,s_z36)] 21 (some [4]) (fun x=>if x=3 then some [1,5,8,9,10] else none) (fun x=>if x=0 then some [5] else if x=1 then some [1,5,8,9,10] else none) nP
def qrC:Code:=cO Tryz.f122
def qFT:Array ResultVar:=Tryz.f122.results
noncomputable def qhh (K:Ex→Fr→Option AV):=fun n5=>K (.exit 0) (frOf [(5,dc n5)])
def qjV (n:Nat):Ex→Fr→Option AV:=qo 0 (qjU.cutb 0) (kSeq (evCP qjU (evLP qjU n) (sub qrC [1,1,1])) (kFnP qjU qFT))
def qnx (kinds1:Int) (n5:Int) (s8:List UInt8) (s9:Int) (s10:Int):Fr:=frOf [(1,dc kinds1),(5,dc n5),(8,da s8),(9,dc s9),(10,dc s10)]
theorem qur (K:Ex→Fr→Option AV):∀ (n:Nat) (kinds1:Int) (n5:Int) (s8:List UInt8) (s9:Int) (s10:Int),evLP qjU n (sub qrC [1,1,0,1,0,0]) K (qnx kinds1 n5 s8 s9 s10)=qeC (qhh K) n kinds1 n5 s8 s9 s10:=by
 intro n;induction n with
 | zero=>intros; rfl
 | succ n IH =>
 intro kinds1 n5 s8 s9 s10;have ih:(fun kinds1 n5 s8 s9 s10=>evLP qjU n (sub qrC [1,1,0,1,0,0]) K (qnx kinds1 n5 s8 s9 s10))=qeC (qhh K) n:=by
  funext kinds1 n5 s8 s9 s10;exact IH kinds1 n5 s8 s9 s10
 show _=qdr (qhh K) (qeC (qhh K) n) n kinds1 n5 s8 s9 s10;rw [← ih];kernel_rfl
theorem qny (n:Nat) (n5:Int):(qjV n) (.exit 0) (frOf [(5,dc n5)])=qeD n n5:=by
 kernel_rfl
theorem qFU (n:Nat) (s0:List UInt8) (o0:Lab) (kinds1:Int) (o1:Lab):evFnP qjU n qrC qFT [db s0 o0,de kinds1 o1]=qqk n s0 kinds1:=by
 unfold qqk;rw [show qeC (qeD n) n=(fun kinds1 n5 s8 s9 s10=>evLP qjU n (sub qrC [1,1,0,1,0,0]) (qjV n) (qnx kinds1 n5 s8 s9 s10)) from by
  funext kinds1 n5 s8 s9 s10;refine Eq.trans ?_ (qur (qjV n) n kinds1 n5 s8 s9 s10).symm;rw [show (qhh (qjV n))=(qeD n) from by
   funext n5;exact qny n n5]
  all_goals kernel_rfl]
 kernel_rfl
theorem qus:qg G Tryz.prog 122 s_z122:=by
 refine sQ (E:=qjU) (c:=qrC) rfl (fun w S hg=>(qb (qjT w S hg) qc)) Tryz.func122 ?_;intro avs r h;unfold s_z122 at h;split at h
 ·obtain ⟨hp,rfl⟩:=yj h;obtain ⟨n,hn⟩:=qAg _ _ hp;exact ⟨n,_,(qFU n _ _ _ _).trans hn,.inl rfl⟩
 ·cases h
def E_z90:EnvP:=eQ [(122,s_z122)] 11 (some [4]) nC nC nP
def C_z90:Code:=cO Tryz.f90
def R_z90:Array ResultVar:=Tryz.f90.results
theorem qJi (n:Nat) (s0:List UInt8) (o0:Lab) (kinds1:Int) (o1:Lab):evFnP E_z90 n C_z90 R_z90 [db s0 o0,de kinds1 o1]=qDz n s0 kinds1:=by
 kernel_rfl
theorem qpN:qg G Tryz.prog 90 s_z90:=by
 refine sQ (E:=E_z90) (c:=C_z90) rfl (fun w S hg=>(qb (qus w S hg) qc)) Tryz.func90 ?_;intro avs r h;unfold s_z90 at h;split at h
 ·obtain ⟨hp,rfl⟩:=yj h;obtain ⟨n,hn⟩:=qEg _ _ hp;exact ⟨n,_,(qJi n _ _ _ _).trans hn,.inl rfl⟩
 ·cases h
def E_z85:EnvP:=eQ [(90,s_z90)] 13 (some [4]) nC nC nP
def C_z85:Code:=cO Tryz.f85
def R_z85:Array ResultVar:=Tryz.f85.results
theorem qJj (n:Nat) (s0:List UInt8) (o0:Lab) (kinds1:Int) (o1:Lab):evFnP E_z85 n C_z85 R_z85 [db s0 o0,de kinds1 o1]=qDA n s0 kinds1:=by
 kernel_rfl
theorem qyU:qg G Tryz.prog 85 s_z85:=by
 refine sQ (E:=E_z85) (c:=C_z85) rfl (fun w S hg=>(qb (qpN w S hg) qc)) Tryz.func85 ?_;intro avs r h;unfold s_z85 at h;split at h
 ·obtain ⟨hp,rfl⟩:=yj h;obtain ⟨n,hn⟩:=qEj _ _ hp;exact ⟨n,_,(qJj n _ _ _ _).trans hn,.inl rfl⟩
 ·cases h
def E_z51:EnvP:=eQ [(82,s_z82),(83,s_z83),(84,s_z84),(85,s_z85)] 64 (some [2,3]) nC (fun x=>if x=0 then some [2,5] else none) nP
def C_z51:Code:=cO Tryz.f51
def R_z51:Array ResultVar:=Tryz.f51.results
theorem qJk (n:Nat) (s0:List UInt8) (o0:Lab):evFnP E_z51 n C_z51 R_z51 [db s0 o0]=qDB n s0:=by
 kernel_rfl
theorem qgj:qg G Tryz.prog 51 s_z51:=by
 refine sQ (E:=E_z51) (c:=C_z51) rfl (fun w S hg=>(qb (qyO w S hg) (qb (qgi w S hg) (qb (qyQ w S hg) (qb (qyU w S hg) qc))))) Tryz.func51 ?_;intro avs r h;unfold s_z51 at h;split at h
 ·obtain ⟨hp,rfl⟩:=yj h;obtain ⟨n,hn⟩:=qEk _ hp;exact ⟨n,_,(qJk n _ _).trans hn,.inl rfl⟩
 ·cases h
end
end Go.Av
