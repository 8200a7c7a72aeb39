import Derived.Test.YtmdadpepccbpcaaGreatDoorPoEvA
import Derived.Test.YtmdadpepccbpcaaGreatDoorPoD
import Derived.Test.YtmdadpepccbpcaaGreatDoorAvE
import Derived.Test.YtmdadpepccbpcaaGreatDoorProg
import Derived.KernelRfl
namespace Go.Av
set_option linter.unusedSimpArgs false
set_option linter.unusedVariables false
section
noncomputable section
open Go.Proofs
set_option maxRecDepth 100000
set_option linter.unusedVariables false
def E_z52:EnvP:=eQ [] 4 (none) nC nC (fun x=>if x=1 then some (.leaf (.sl .byte)) else none)
def C_z52:Code:=cO Tryz.f52
def R_z52:Array ResultVar:=Tryz.f52.results
theorem qMw (n:Nat) (s0:LU) (o0:Lab):evFnR E_z52 n C_z52 R_z52 [db s0 o0]=qOn n s0:=by
 kernel_rfl
theorem qAh:qHq G Tryz.prog 52 s_z52:=by
 refine qnx G_stays (E:=E_z52) (fn:=Tryz.f52) (c:=C_z52) (qd rfl qZ) (fun w S hg=>⟨⟨qc,fun f sp h=>qx f sp h w S⟩,qy w S hg,(fun _ _ h=>by cases h),(fun f sp h=>qC f sp h),(fun f it h=>qD f it h),(fun t kt vt h=>qz t kt vt h)⟩) follows Tryz.func52 (by kernel_rfl) (by kernel_rfl) (by kernel_rfl) ?_;intro avs r h;unfold s_z52 at h;split at h
 ·simp only [yb,true_and] at h;subst h;exact ⟨0,qMw 0 _ _⟩
 ·cases h
def qIf:EnvP:=eQ [] 24 (some [4]) (fun x=>if x=1 then some [0,1] else none) (fun x=>if x=0 then some [0] else if x=1 then some [0,1] else none) nP
def qIg:Code:=cO Tryz.f206
def qMx:Array ResultVar:=Tryz.f206.results
def s_z206:List AV→Bool×AV:=byE qIf qIg qMx
theorem qvh:qe G Tryz.prog 206 s_z206:=by
 refine qi G_stays (E:=qIf) (fn:=Tryz.f206) (c:=qIg) (qd rfl qZ) (fun w S hg=>⟨⟨qc,fun f sp h=>qx f sp h w S⟩,qy w S hg,(fun _ _ h=>by cases h),(fun f sp h=>qC f sp h),(fun f it h=>qD f it h),(fun t kt vt h=>qz t kt vt h)⟩) follows Tryz.func206 (by kernel_rfl) (by kernel_rfl) (by kernel_rfl) fun _ _ h=>qE h
def qIh:EnvP:=eQ [(168,s_z168)] 23 (some [4]) (fun x=>if x=1 then some [0,1] else none) (fun x=>if x=0 then some [0] else if x=1 then some [0,1] else none) nP
def qIi:Code:=cO Tryz.f208
def qMy:Array ResultVar:=Tryz.f208.results
def s_z208:List AV→Bool×AV:=byE qIh qIi qMy
theorem qvi:qe G Tryz.prog 208 s_z208:=by
 refine qi G_stays (E:=qIh) (fn:=Tryz.f208) (c:=qIi) (qd rfl qZ) (fun w S hg=>⟨⟨(qa (qmt w S hg) qc),fun f sp h=>qx f sp h w S⟩,qy w S hg,(fun _ _ h=>by cases h),(fun f sp h=>qC f sp h),(fun f it h=>qD f it h),(fun t kt vt h=>qz t kt vt h)⟩) follows Tryz.func208 (by kernel_rfl) (by kernel_rfl) (by kernel_rfl) fun _ _ h=>qE h
def qIj:EnvP:=⟨⟨tiOf tis,fnsOf [(167,s_z167),(206,s_z206),(208,s_z208),(210,s_z210)],cnsOf [],[],38,(fun _=>none),(fun _=>none),some [4]⟩,fun _=>none,fun _=>none,(fun x=>if x=500007 then [5] else []),fun _=>none,fun _=>none,fun _=>none,fun _=>none⟩
def qIk:Code:=cO Tryz.f172
def qMz:Array ResultVar:=Tryz.f172.results
def s_z172:List AV→Bool×AV:=byE qIj qIk qMz
theorem qvj:qe G Tryz.prog 172 s_z172:=by
 refine qi G_stays (E:=qIj) (fn:=Tryz.f172) (c:=qIk) (qd rfl qZ) (fun w S hg=>⟨⟨(qa (qms w S hg) (qa (qvh w S hg) (qa (qvi w S hg) (qa (quW w S hg) qc)))),fun f sp h=>qx f sp h w S⟩,qy w S hg,(fun _ _ h=>by cases h),(fun f sp h=>qC f sp h),(fun f it h=>qD f it h),(fun t kt vt h=>qz t kt vt h)⟩) follows Tryz.func172 (by kernel_rfl) (by kernel_rfl) (by kernel_rfl) fun _ _ h=>qE h
def qIl:EnvP:=eQ [(194,s_z194)] 21 (some [4]) nC nC nP
def qIm:Code:=cO Tryz.f215
def qMA:Array ResultVar:=Tryz.f215.results
def s_z215:List AV→Bool×AV:=byE qIl qIm qMA
theorem qvk:qe G Tryz.prog 215 s_z215:=by
 refine qi G_stays (E:=qIl) (fn:=Tryz.f215) (c:=qIm) (qd rfl qZ) (fun w S hg=>⟨⟨(qa (qmx w S hg) qc),fun f sp h=>qx f sp h w S⟩,qy w S hg,(fun _ _ h=>by cases h),(fun f sp h=>qC f sp h),(fun f it h=>qD f it h),(fun t kt vt h=>qz t kt vt h)⟩) follows Tryz.func215 (by kernel_rfl) (by kernel_rfl) (by kernel_rfl) fun _ _ h=>qE h
def qIn:EnvP:=eQ [(215,s_z215)] 18 (some [4,5]) nC nC nP
def qIo:Code:=cO Tryz.f173
def qMB:Array ResultVar:=Tryz.f173.results
def s_z173:List AV→Bool×AV:=byE qIn qIo qMB
theorem qvl:qe G Tryz.prog 173 s_z173:=by
 refine qi G_stays (E:=qIn) (fn:=Tryz.f173) (c:=qIo) (qd rfl qZ) (fun w S hg=>⟨⟨(qa (qvk w S hg) qc),fun f sp h=>qx f sp h w S⟩,qy w S hg,(fun _ _ h=>by cases h),(fun f sp h=>qC f sp h),(fun f it h=>qD f it h),(fun t kt vt h=>qz t kt vt h)⟩) follows Tryz.func173 (by kernel_rfl) (by kernel_rfl) (by kernel_rfl) fun _ _ h=>qE h
def qIp:EnvP:=eQ [(172,s_z172),(173,s_z173)] 11 (some [2,3]) nC nC nP
def qIq:Code:=cO Tryz.f111
def qMC:Array ResultVar:=Tryz.f111.results
def s_z111:List AV→Bool×AV:=byE qIp qIq qMC
theorem qvm:qe G Tryz.prog 111 s_z111:=by
 refine qi G_stays (E:=qIp) (fn:=Tryz.f111) (c:=qIq) (qd rfl qZ) (fun w S hg=>⟨⟨(qa (qvj w S hg) (qa (qvl w S hg) qc)),fun f sp h=>qx f sp h w S⟩,qy w S hg,(fun _ _ h=>by cases h),(fun f sp h=>qC f sp h),(fun f it h=>qD f it h),(fun t kt vt h=>qz t kt vt h)⟩) follows Tryz.func111 (by kernel_rfl) (by kernel_rfl) (by kernel_rfl) fun _ _ h=>qE h
def qIr:EnvP:=eQ [] 46 (some [2]) nC (fun x=>if x=0 then some [3] else none) nP
def qIs:Code:=cO Tryz.f228
def qMD:Array ResultVar:=Tryz.f228.results
theorem qIt (n:Nat) (c0:UInt8) (o0:Lab):evFnP qIr n qIs qMD [dn c0 o0]=qxn n c0:=by
 kernel_rfl
theorem qvn:qe G Tryz.prog 228 s_z228:=by
 refine sQ (E:=qIr) (c:=qIs) rfl (fun w S hg=>qc) Tryz.func228 ?_;intro avs r h;unfold s_z228 at h;split at h <;> cases h
 obtain ⟨n,hn⟩:=qBS _;exact ⟨n,_,(qIt n _ _).trans hn,.inl rfl⟩
def qIu:EnvP:=eQ [(164,s_z164)] 8 (some [4]) nC nC nP
def qIv:Code:=cO Tryz.f236
def qME:Array ResultVar:=Tryz.f236.results
theorem qIw (n:Nat) (s0:LU) (o0:Lab) (c1:UInt8) (o1:Lab):evFnP qIu n qIv qME [df s0 o0,dn c1 o1]=qDF n s0 c1:=by
 kernel_rfl
theorem qvo:qe G Tryz.prog 236 s_z236:=by
 refine sQ (E:=qIu) (c:=qIv) rfl (fun w S hg=>(qa (qmq w S hg) qc)) Tryz.func236 ?_;intro avs r h;unfold s_z236 at h;split at h <;> cases h
 obtain ⟨n,hn⟩:=qBT _ _;exact ⟨n,_,(qIw n _ _ _ _).trans hn,.inl rfl⟩
def qIx:EnvP:=eQ [(236,s_z236)] 8 (some [4]) nC nC nP
def qIy:Code:=cO Tryz.f216
def qMF:Array ResultVar:=Tryz.f216.results
theorem qIz (n:Nat) (s0:LU) (o0:Lab) (c1:UInt8) (o1:Lab):evFnP qIx n qIy qMF [df s0 o0,dn c1 o1]=qDG n s0 c1:=by
 kernel_rfl
theorem qvp:qe G Tryz.prog 216 s_z216:=by
 refine sQ (E:=qIx) (c:=qIy) rfl (fun w S hg=>(qa (qvo w S hg) qc)) Tryz.func216 ?_;intro avs r h;unfold s_z216 at h;split at h <;> cases h
 obtain ⟨n,hn⟩:=qBU _ _;exact ⟨n,_,(qIz n _ _ _ _).trans hn,.inl rfl⟩
def qIA:EnvP:=eQ [(216,s_z216)] 9 (some [4]) nC nC nP
def qIB:Code:=cO Tryz.f229
def qMG:Array ResultVar:=Tryz.f229.results
theorem qIC (n:Nat) (s0:LU) (o0:Lab) (c1:UInt8) (o1:Lab):evFnP qIA n qIB qMG [df s0 o0,dn c1 o1]=qDH n s0 c1:=by
 kernel_rfl
theorem qvq:qe G Tryz.prog 229 s_z229:=by
 refine sQ (E:=qIA) (c:=qIB) rfl (fun w S hg=>(qa (qvp w S hg) qc)) Tryz.func229 ?_;intro avs r h;unfold s_z229 at h;split at h <;> cases h
 obtain ⟨n,hn⟩:=qBV _ _;exact ⟨n,_,(qIC n _ _ _ _).trans hn,.inl rfl⟩
def qID:EnvP:=eQ [(228,s_z228),(229,s_z229)] 35 (some [2]) nC nC nP
def qIE:Code:=cO Tryz.f198
def qMH:Array ResultVar:=Tryz.f198.results
theorem qIF (n:Nat) (c0:UInt8) (o0:Lab):evFnP qID n qIE qMH [dn c0 o0]=qxr n c0:=by
 kernel_rfl
theorem qvr:qe G Tryz.prog 198 s_z198:=by
 refine sQ (E:=qID) (c:=qIE) rfl (fun w S hg=>(qa (qvn w S hg) (qa (qvq w S hg) qc))) Tryz.func198 ?_;intro avs r h;unfold s_z198 at h;split at h <;> cases h
 obtain ⟨n,hn⟩:=qBW _;exact ⟨n,_,(qIF n _ _).trans hn,.inl rfl⟩
def qIG:EnvP:=eQ [(198,s_z198)] 10 (some [4]) nC nC nP
def qIH:Code:=cO Tryz.f144
def qMI:Array ResultVar:=Tryz.f144.results
theorem qII (n:Nat) (c0:UInt8) (o0:Lab) (kinds1:Int) (o1:Lab):evFnP qIG n qIH qMI [dn c0 o0,de kinds1 o1]=qDI n c0 kinds1:=by
 kernel_rfl
theorem qmy:qe G Tryz.prog 144 s_z144:=by
 refine sQ (E:=qIG) (c:=qIH) rfl (fun w S hg=>(qa (qvr w S hg) qc)) Tryz.func144 ?_;intro avs r h;unfold s_z144 at h;split at h <;> cases h
 obtain ⟨n,hn⟩:=qBX _ _;exact ⟨n,_,(qII n _ _ _ _).trans hn,.inl rfl⟩
def qIJ:EnvP:=eQ [] 12 (some [2]) nC nC nP
def qIK:Code:=cO Tryz.f154
def qMJ:Array ResultVar:=Tryz.f154.results
def s_z154:List AV→Bool×AV:=byE qIJ qIK qMJ
theorem qvs:qe G Tryz.prog 154 s_z154:=by
 refine qi G_stays (E:=qIJ) (fn:=Tryz.f154) (c:=qIK) (qd rfl qZ) (fun w S hg=>⟨⟨qc,fun f sp h=>qx f sp h w S⟩,qy w S hg,(fun _ _ h=>by cases h),(fun f sp h=>qC f sp h),(fun f it h=>qD f it h),(fun t kt vt h=>qz t kt vt h)⟩) follows Tryz.func154 (by kernel_rfl) (by kernel_rfl) (by kernel_rfl) fun _ _ h=>qE h
def qIL:EnvP:=eQ [(144,s_z144),(154,s_z154)] 23 (some [2,3]) nC (fun x=>if x=0 then some [] else none) nP
def qIM:Code:=cO Tryz.f230
def qMK:Array ResultVar:=Tryz.f230.results
def s_z230:List AV→Bool×AV:=byE qIL qIM qMK
theorem qvt:qe G Tryz.prog 230 s_z230:=by
 refine qi G_stays (E:=qIL) (fn:=Tryz.f230) (c:=qIM) (qd rfl qZ) (fun w S hg=>⟨⟨(qa (qmy w S hg) (qa (qvs w S hg) qc)),fun f sp h=>qx f sp h w S⟩,qy w S hg,(fun _ _ h=>by cases h),(fun f sp h=>qC f sp h),(fun f it h=>qD f it h),(fun t kt vt h=>qz t kt vt h)⟩) follows Tryz.func230 (by kernel_rfl) (by kernel_rfl) (by kernel_rfl) fun _ _ h=>qE h
def qIN:EnvP:=eQ [(230,s_z230)] 31 (some [4,5]) nC nC nP
def qIO:Code:=cO Tryz.f199
def qML:Array ResultVar:=Tryz.f199.results
def s_z199:List AV→Bool×AV:=byE qIN qIO qML
theorem qvu:qe G Tryz.prog 199 s_z199:=by
 refine qi G_stays (E:=qIN) (fn:=Tryz.f199) (c:=qIO) (qd rfl qZ) (fun w S hg=>⟨⟨(qa (qvt w S hg) qc),fun f sp h=>qx f sp h w S⟩,qy w S hg,(fun _ _ h=>by cases h),(fun f sp h=>qC f sp h),(fun f it h=>qD f it h),(fun t kt vt h=>qz t kt vt h)⟩) follows Tryz.func199 (by kernel_rfl) (by kernel_rfl) (by kernel_rfl) fun _ _ h=>qE h
def qIP:EnvP:=eQ [(199,s_z199)] 38 (some [6,7]) nC nC nP
def qIQ:Code:=cO Tryz.f145
def qMM:Array ResultVar:=Tryz.f145.results
def s_z145:List AV→Bool×AV:=byE qIP qIQ qMM
theorem qvv:qe G Tryz.prog 145 s_z145:=by
 refine qi G_stays (E:=qIP) (fn:=Tryz.f145) (c:=qIQ) (qd rfl qZ) (fun w S hg=>⟨⟨(qa (qvu w S hg) qc),fun f sp h=>qx f sp h w S⟩,qy w S hg,(fun _ _ h=>by cases h),(fun f sp h=>qC f sp h),(fun f it h=>qD f it h),(fun t kt vt h=>qz t kt vt h)⟩) follows Tryz.func145 (by kernel_rfl) (by kernel_rfl) (by kernel_rfl) fun _ _ h=>qE h
def qIR:EnvP:=eQ [(145,s_z145)] 44 (some [2,3]) (fun x=>if x=4 then some [0,4,5,6] else none) (fun x=>if x=0 then some [4,5] else if x=1 then some [0,4,5,6] else none) (fun x=>if x=3 then some (.leaf (.int .i64)) else none)
def qIS:Code:=cO Tryz.f112
def qMN:Array ResultVar:=Tryz.f112.results
def s_z112:List AV→Bool×AV:=byE qIR qIS qMN
theorem qvw:qe G Tryz.prog 112 s_z112:=by
 refine qi G_stays (E:=qIR) (fn:=Tryz.f112) (c:=qIS) (qd rfl qZ) (fun w S hg=>⟨⟨(qa (qvv w S hg) qc),fun f sp h=>qx f sp h w S⟩,qy w S hg,(fun _ _ h=>by cases h),(fun f sp h=>qC f sp h),(fun f it h=>qD f it h),(fun t kt vt h=>qz t kt vt h)⟩) follows Tryz.func112 (by kernel_rfl) (by kernel_rfl) (by kernel_rfl) fun _ _ h=>qE h
def E_z53:EnvP:=eQ [(111,s_z111),(112,s_z112)] 19 (some [2,3]) nC nC nP
def C_z53:Code:=cO Tryz.f53
def R_z53:Array ResultVar:=Tryz.f53.results
def s_z53:List AV→Bool×AV:=byE E_z53 C_z53 R_z53
theorem qAi:qe G Tryz.prog 53 s_z53:=by
 refine qi G_stays (E:=E_z53) (fn:=Tryz.f53) (c:=C_z53) (qd rfl qZ) (fun w S hg=>⟨⟨(qa (qvm w S hg) (qa (qvw w S hg) qc)),fun f sp h=>qx f sp h w S⟩,qy w S hg,(fun _ _ h=>by cases h),(fun f sp h=>qC f sp h),(fun f it h=>qD f it h),(fun t kt vt h=>qz t kt vt h)⟩) follows Tryz.func53 (by kernel_rfl) (by kernel_rfl) (by kernel_rfl) fun _ _ h=>qE h
def E_z27:EnvP:=⟨⟨tiOf tis,fnsOf [(53,s_z53)],cnsOf [],[],26,(fun x=>if x=2000005 then some [3] else none),(fun x=>if x=0 then some [3] else if x=1 then some [1029] else none),some [1000002]⟩,(fun x=>if x=3 then some (.osl 5 .byte) else if x=19 then some (.osl 5 .byte) else if x=24 then some (.osl 5 .byte) else none),fun _=>none,fun _=>[],fun _=>none,(fun x=>if x=52 then some s_z52 else none),(fun x=>if x=108 then some qDw else none),fun _=>none⟩
def C_z27:Code:=cO Tryz.f27
def R_z27:Array ResultVar:=Tryz.f27.results
def s_z27:List AV→Bool×AV:=byE E_z27 C_z27 R_z27
theorem qAj:qe G Tryz.prog 27 s_z27:=by
 refine qi G_stays (E:=E_z27) (fn:=Tryz.f27) (c:=C_z27) (qd rfl qZ) (fun w S hg=>⟨⟨(qa (qAi w S hg) qc),fun f sp h=>qx f sp h w S⟩,qy w S hg,(fun _ _ h=>by cases h),(fun f sp h=>(qEn (qAh w S hg) qC) f sp h),(fun f it h=>(qEo (qvg w S hg) qD) f it h),(fun t kt vt h=>qz t kt vt h)⟩) follows Tryz.func27 (by kernel_rfl) (by kernel_rfl) (by kernel_rfl) fun _ _ h=>qE h
def E_z59:EnvP:=eQ [] 23 (some [2]) (fun x=>if x=3 then some [3,9,10,11] else none) (fun x=>if x=0 then some [3] else if x=1 then some [3,9,10,11] else none) (fun x=>if x=8 then some (.psl 21 (.leaf (.int .i32))) else none)
def C_z59:Code:=cO Tryz.f59
def R_z59:Array ResultVar:=Tryz.f59.results
def s_z59:List AV→Bool×AV:=byE E_z59 C_z59 R_z59
theorem qqq:qe G Tryz.prog 59 s_z59:=by
 refine qi G_stays (E:=E_z59) (fn:=Tryz.f59) (c:=C_z59) (qd rfl qZ) (fun w S hg=>⟨⟨qc,fun f sp h=>qx f sp h w S⟩,qy w S hg,(fun _ _ h=>by cases h),(fun f sp h=>qC f sp h),(fun f it h=>qD f it h),(fun t kt vt h=>qz t kt vt h)⟩) follows Tryz.func59 (by kernel_rfl) (by kernel_rfl) (by kernel_rfl) fun _ _ h=>qE h
def qIT:EnvP:=eQ [] 6 (some [2]) nC nC nP
def qIU:Code:=cO Tryz.f114
def qMO:Array ResultVar:=Tryz.f114.results
def s_z114:List AV→Bool×AV:=byE qIT qIU qMO
theorem qvx:qe G Tryz.prog 114 s_z114:=by
 refine qi G_stays (E:=qIT) (fn:=Tryz.f114) (c:=qIU) (qd rfl qZ) (fun w S hg=>⟨⟨qc,fun f sp h=>qx f sp h w S⟩,qy w S hg,(fun _ _ h=>by cases h),(fun f sp h=>qC f sp h),(fun f it h=>qD f it h),(fun t kt vt h=>qz t kt vt h)⟩) follows Tryz.func114 (by kernel_rfl) (by kernel_rfl) (by kernel_rfl) fun _ _ h=>qE h
def E_z55:EnvP:=eQ [(59,s_z59),(114,s_z114)] 24 (some [2]) (fun x=>if x=4 then some [3,4,9,10,11] else none) (fun x=>if x=0 then some [3] else if x=1 then some [3,4,9,10,11] else none) (fun x=>if x=8 then some (.psl 21 (.leaf (.int .i32))) else none)
def C_z55:Code:=cO Tryz.f55
def R_z55:Array ResultVar:=Tryz.f55.results
def s_z55:List AV→Bool×AV:=byE E_z55 C_z55 R_z55
theorem qAk:qe G Tryz.prog 55 s_z55:=by
 refine qi G_stays (E:=E_z55) (fn:=Tryz.f55) (c:=C_z55) (qd rfl qZ) (fun w S hg=>⟨⟨(qa (qqq w S hg) (qa (qvx w S hg) qc)),fun f sp h=>qx f sp h w S⟩,qy w S hg,(fun _ _ h=>by cases h),(fun f sp h=>qC f sp h),(fun f it h=>qD f it h),(fun t kt vt h=>qz t kt vt h)⟩) follows Tryz.func55 (by kernel_rfl) (by kernel_rfl) (by kernel_rfl) fun _ _ h=>qE h
def qIV:EnvP:=eQ [] 10 (some [0]) nC nC nP
def qIW:Code:=cO Tryz.f176
def qMP:Array ResultVar:=Tryz.f176.results
theorem qIX (n:Nat)  : evFnP qIV n qIW qMP []=qDJ n  := by
 kernel_rfl
theorem qvy:qe G Tryz.prog 176 s_z176:=by
 refine sQ (E:=qIV) (c:=qIW) rfl (fun w S hg=>qc) Tryz.func176 ?_;intro avs r h;unfold s_z176 at h;split at h <;> cases h
 obtain ⟨n,hn⟩:=qCe;exact ⟨n,_,(qIX n ).trans hn,.inl rfl⟩
def qIY:EnvP:=⟨⟨tiOf tis,fnsOf [],cnsOf [],[],4,(fun _=>none),(fun _=>none),some [0]⟩,fun _=>none,fun _=>none,(fun x=>if x=500002 then [1] else []),fun _=>none,fun _=>none,fun _=>none,fun _=>none⟩
def qIZ:Code:=cO Tryz.f177
def qMQ:Array ResultVar:=Tryz.f177.results
theorem qJa (n:Nat)  : evFnP qIY n qIZ qMQ []=qDK n  := by
 kernel_rfl
theorem qvz:qe G Tryz.prog 177 s_z177:=by
 refine qav G_stays (E:=qIY) (fn:=Tryz.f177) (c:=qIZ) (qd rfl qZ) (fun w S hg=>⟨⟨qc,fun f sp h=>qx f sp h w S⟩,qy w S hg,(fun _ _ h=>by cases h),(fun f sp h=>qC f sp h),(fun f it h=>qD f it h),(fun t kt vt h=>qz t kt vt h)⟩) follows Tryz.func177 (by kernel_rfl) (by kernel_rfl) (by kernel_rfl) ?_;intro avs r h;unfold s_z177 at h;split at h <;> cases h
 obtain ⟨n,hn⟩:=qCf;exact ⟨n,_,(qJa n ).trans hn,.inl rfl⟩
def qJb:EnvP:=eQ [] 10 (some [2]) nC (fun x=>if x=0 then some [] else none) nP
def qJc:Code:=cO Tryz.f185
def qMR:Array ResultVar:=Tryz.f185.results
theorem qJd (n:Nat) (n0:Int) (o0:Lab):evFnP qJb n qJc qMR [de n0 o0]=qxv n n0:=by
 kernel_rfl
theorem qvA:qe G Tryz.prog 185 s_z185:=by
 refine sQ (E:=qJb) (c:=qJc) rfl (fun w S hg=>qc) Tryz.func185 ?_;intro avs r h;unfold s_z185 at h;split at h <;> cases h
 obtain ⟨n,hn⟩:=qCd _;exact ⟨n,_,(qJd n _ _).trans hn,.inl rfl⟩
def E_z29:EnvP:=eQ [(55,s_z55),(56,s_z56),(57,s_z57),(58,s_z58),(59,s_z59)] 24 (some [1000004]) nC (fun x=>if x=0 then some [1] else none) nP
def C_z29:Code:=cO Tryz.f29
def R_z29:Array ResultVar:=Tryz.f29.results
def s_z29:List AV→Bool×AV:=byE E_z29 C_z29 R_z29
theorem qAl:qe G Tryz.prog 29 s_z29:=by
 refine qi G_stays (E:=E_z29) (fn:=Tryz.f29) (c:=C_z29) (qd rfl qZ) (fun w S hg=>⟨⟨(qa (qAk w S hg) (qa (qAc w S hg) (qa (qAd w S hg) (qa (qAe w S hg) (qa (qqq w S hg) qc))))),fun f sp h=>qx f sp h w S⟩,qy w S hg,(fun _ _ h=>by cases h),(fun f sp h=>qC f sp h),(fun f it h=>qD f it h),(fun t kt vt h=>qz t kt vt h)⟩) follows Tryz.func29 (by kernel_rfl) (by kernel_rfl) (by kernel_rfl) fun _ _ h=>qE h
def E_z12:EnvP:=eQ [(27,s_z27),(28,s_z28),(29,s_z29)] 19 (some [6]) nC (fun x=>if x=0 then some [1,2] else none) nP
def C_z12:Code:=cO Tryz.f12
def R_z12:Array ResultVar:=Tryz.f12.results
def s_z12:List AV→Bool×AV:=byE E_z12 C_z12 R_z12
theorem qqr:qe G Tryz.prog 12 s_z12:=by
 refine qi G_stays (E:=E_z12) (fn:=Tryz.f12) (c:=C_z12) (qd rfl qZ) (fun w S hg=>⟨⟨(qa (qAj w S hg) (qa (qAb w S hg) (qa (qAl w S hg) qc))),fun f sp h=>qx f sp h w S⟩,qy w S hg,(fun _ _ h=>by cases h),(fun f sp h=>qC f sp h),(fun f it h=>qD f it h),(fun t kt vt h=>qz t kt vt h)⟩) follows Tryz.func12 (by kernel_rfl) (by kernel_rfl) (by kernel_rfl) fun _ _ h=>qE h
def E_z78:EnvP:=eQ [] 5 (some [2]) nC nC nP
def C_z78:Code:=cO Tryz.f78
def R_z78:Array ResultVar:=Tryz.f78.results
theorem qMS (n:Nat) (c0:UInt8) (o0:Lab):evFnP E_z78 n C_z78 R_z78 [dn c0 o0]=qLG n c0:=by
 kernel_rfl
theorem qAm:qe G Tryz.prog 78 s_z78:=by
 refine sQ (E:=E_z78) (c:=C_z78) rfl (fun w S hg=>qc) Tryz.func78 ?_;intro avs r h;unfold s_z78 at h;split at h <;> cases h
 obtain ⟨n,hn⟩:=qFn _;exact ⟨n,_,(qMS n _ _).trans hn,.inl rfl⟩
def qkl:EnvP:=eQ [(143,s_z143),(192,s_z192),(193,s_z193)] 35 (some [4]) (fun x=>if x=6 then some [0,1,5] else none) (fun x=>if x=0 then some [4] else if x=1 then some [0,1,5] else none) nP
def qvB:Code:=cO Tryz.f139
def qFg:Array ResultVar:=Tryz.f139.results
noncomputable def qkm (K:Ex→Fr→OA):=fun s4=>K .ret (frOf [(4,dc s4)])
def qof (s0:LU) (sep1:LU) (n5:Int):Fr:=frOf [(0,da s0),(1,da sep1),(5,dc n5)]
theorem qvC (K:Ex→Fr→OA):∀ (n:Nat) (s0:LU) (sep1:LU) (n5:Int),evLP qkl n (sub qvB [1,1,1,1,0,0]) K (qof s0 sep1 n5)=qib (qkm K) n s0 sep1 n5:=by
 intro n;induction n with
 | zero=>intros; rfl
 | succ n IH =>
 intro s0 sep1 n5;have ih:(fun s0 sep1 n5=>evLP qkl n (sub qvB [1,1,1,1,0,0]) K (qof s0 sep1 n5))=qib (qkm K) n:=by
  funext s0 sep1 n5;exact IH s0 sep1 n5
 show _=qgO (qkm K) (qib (qkm K) n) n s0 sep1 n5;rw [← ih];kernel_rfl
theorem qJe (n:Nat) (s0:LU) (o0:Lab) (sep1:LU) (o1:Lab):evFnP qkl n qvB qFg [db s0 o0,db sep1 o1]=qqW n s0 sep1:=by
 unfold qqW;rw [show qib qfA n=(fun s0 sep1 n5=>evLP qkl n (sub qvB [1,1,1,1,0,0]) (qo 0 (qkl.cutb 0) (kFnP qkl qFg)) (qof s0 sep1 n5)) from by
  funext s0 sep1 n5;refine Eq.trans ?_ (qvC (qo 0 (qkl.cutb 0) (kFnP qkl qFg)) n s0 sep1 n5).symm;all_goals kernel_rfl]
 kernel_rfl
theorem qmz:qe G Tryz.prog 139 s_z139:=by
 refine sQ (E:=qkl) (c:=qvB) rfl (fun w S hg=>(qa (qmr w S hg) (qa (quU w S hg) (qa (quT w S hg) qc)))) Tryz.func139 ?_;intro avs r h;unfold s_z139 at h;split at h
 ·obtain ⟨hp,rfl⟩:=yj h;obtain ⟨n,hn⟩:=qDf _ _ hp;exact ⟨n,_,(qJe n _ _ _ _).trans hn,.inl rfl⟩
 ·cases h
def qJf:EnvP:=eQ [(139,s_z139)] 8 (some [3,9]) nC nC nP
def qJg:Code:=cO Tryz.f140
def qMT:Array ResultVar:=Tryz.f140.results
theorem qJh (n:Nat) (c0:UInt8) (o0:Lab) (x1:LU):evFnM qJf n qJg qMT [dn c0 o0,.pbox (.leaf (.sl .byte)) x1 none]=qxx n c0 x1:=by
 kernel_rfl
theorem qvD:qrV G Tryz.prog 140 s_z140:=by
 refine qcm G_stays (E:=qJf) (fn:=Tryz.f140) (c:=qJg) (qd rfl qZ) (fun w S hg=>⟨⟨(qa (qmz w S hg) qc),fun f sp h=>qx f sp h w S⟩,qy w S hg,(fun _ _ h=>by cases h),(fun f sp h=>qC f sp h),(fun f it h=>qD f it h),(fun t kt vt h=>qz t kt vt h)⟩) follows Tryz.func140 (by kernel_rfl) (by kernel_rfl) (by kernel_rfl) ?_;intro avs r h;unfold s_z140 at h;split at h
 ·obtain ⟨hp,rfl⟩:=yj h;obtain ⟨n,hn⟩:=qBx _ _ hp;exact ⟨n,(qJh n _ _ _).trans hn⟩
 ·cases h
end
end
end Go.Av
