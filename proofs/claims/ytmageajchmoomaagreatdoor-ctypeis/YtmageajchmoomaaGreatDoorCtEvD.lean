import Derived.Test.YtmageajchmoomaaGreatDoorCtEvC
import Derived.Test.YtmageajchmoomaaGreatDoorCtD
import Derived.Test.YtmageajchmoomaaGreatDoorAvE
import Derived.Test.YtmageajchmoomaaGreatDoorProg
import Derived.KernelRfl
namespace Go.Av
set_option linter.unusedSimpArgs false
set_option linter.unusedVariables false
section
noncomputable section
open Go.Proofs
set_option maxRecDepth 100000
set_option linter.unusedVariables false
def qqp:EnvP:=eQ [] 10 (some [0]) nC nC nP
def qqq:Code:=cO Tryz.f158
def qsd:Array ResultVar:=Tryz.f158.results
def s_z158:Sp:=byE qqp qqq qsd
theorem qko:gG 158 s_z158:=by
 refine qc G_stays (E:=qqp) (fn:=Tryz.f158) (c:=qqq) (qa rfl qt) (fun w S hg=>⟨⟨qh,fun f sp h=>qg f sp h w S⟩,qj w S hg,(fun _ _ h=>by cases h),(fun f sp h=>ql f sp h),(fun f it h=>qm f it h),(fun t kt vt h=>qi t kt vt h)⟩) follows Tryz.func158 (by kernel_rfl) (by kernel_rfl) (by kernel_rfl) fun _ _ h=>qe h
def qqr:EnvP:=eQ [(158,s_z158)] 18 (some [2]) (fun x=>if x=2 then some [0,5,6] else none) (fun x=>if x=0 then some [0] else if x=1 then some [0,5,6] else none) nP
def qqs:Code:=cO Tryz.f147
def qse:Array ResultVar:=Tryz.f147.results
def s_z147:Sp:=byE qqr qqs qse
theorem qkp:gG 147 s_z147:=by
 refine qc G_stays (E:=qqr) (fn:=Tryz.f147) (c:=qqs) (qa rfl qt) (fun w S hg=>⟨⟨(qd (qko w S hg) qh),fun f sp h=>qg f sp h w S⟩,qj w S hg,(fun _ _ h=>by cases h),(fun f sp h=>ql f sp h),(fun f it h=>qm f it h),(fun t kt vt h=>qi t kt vt h)⟩) follows Tryz.func147 (by kernel_rfl) (by kernel_rfl) (by kernel_rfl) fun _ _ h=>qe h
def qqt:EnvP:=eQ [(147,s_z147)] 19 (some [2]) (fun x=>if x=3 then some [3,6,7,8] else none) (fun x=>if x=0 then some [3] else if x=1 then some [3,6,7,8] else none) nP
def qqu:Code:=cO Tryz.f112
def qsf:Array ResultVar:=Tryz.f112.results
def s_z112:Sp:=byE qqt qqu qsf
theorem qkq:gG 112 s_z112:=by
 refine qc G_stays (E:=qqt) (fn:=Tryz.f112) (c:=qqu) (qa rfl qt) (fun w S hg=>⟨⟨(qd (qkp w S hg) qh),fun f sp h=>qg f sp h w S⟩,qj w S hg,(fun _ _ h=>by cases h),(fun f sp h=>ql f sp h),(fun f it h=>qm f it h),(fun t kt vt h=>qi t kt vt h)⟩) follows Tryz.func112 (by kernel_rfl) (by kernel_rfl) (by kernel_rfl) fun _ _ h=>qe h
def qqv:EnvP:=⟨⟨tiOf tis,fnsOf [],cnsOf [],[],4,(fun _=>none),(fun _=>none),some [0]⟩,fun _=>none,fun _=>none,(fun x=>if x=500002 then [1] else []),fun _=>none,fun _=>none,fun _=>none,fun _=>none⟩
def qqw:Code:=cO Tryz.f159
def qsg:Array ResultVar:=Tryz.f159.results
def s_z159:Sp:=byE qqv qqw qsg
theorem qkr:gG 159 s_z159:=by
 refine qc G_stays (E:=qqv) (fn:=Tryz.f159) (c:=qqw) (qa rfl qt) (fun w S hg=>⟨⟨qh,fun f sp h=>qg f sp h w S⟩,qj w S hg,(fun _ _ h=>by cases h),(fun f sp h=>ql f sp h),(fun f it h=>qm f it h),(fun t kt vt h=>qi t kt vt h)⟩) follows Tryz.func159 (by kernel_rfl) (by kernel_rfl) (by kernel_rfl) fun _ _ h=>qe h
def qqx:EnvP:=eQ [(159,s_z159)] 20 (some [2]) nC nC nP
def qqy:Code:=cO Tryz.f148
def qsh:Array ResultVar:=Tryz.f148.results
def s_z148:Sp:=byE qqx qqy qsh
theorem qks:gG 148 s_z148:=by
 refine qc G_stays (E:=qqx) (fn:=Tryz.f148) (c:=qqy) (qa rfl qt) (fun w S hg=>⟨⟨(qd (qkr w S hg) qh),fun f sp h=>qg f sp h w S⟩,qj w S hg,(fun _ _ h=>by cases h),(fun f sp h=>ql f sp h),(fun f it h=>qm f it h),(fun t kt vt h=>qi t kt vt h)⟩) follows Tryz.func148 (by kernel_rfl) (by kernel_rfl) (by kernel_rfl) fun _ _ h=>qe h
def qqz:EnvP:=eQ [(148,s_z148)] 22 (some [2]) (fun x=>if x=3 then some [3,9,10,11] else none) (fun x=>if x=0 then some [3] else if x=1 then some [3,9,10,11] else none) nP
def qqA:Code:=cO Tryz.f113
def qsi:Array ResultVar:=Tryz.f113.results
def s_z113:Sp:=byE qqz qqA qsi
theorem qkt:gG 113 s_z113:=by
 refine qc G_stays (E:=qqz) (fn:=Tryz.f113) (c:=qqA) (qa rfl qt) (fun w S hg=>⟨⟨(qd (qks w S hg) qh),fun f sp h=>qg f sp h w S⟩,qj w S hg,(fun _ _ h=>by cases h),(fun f sp h=>ql f sp h),(fun f it h=>qm f it h),(fun t kt vt h=>qi t kt vt h)⟩) follows Tryz.func113 (by kernel_rfl) (by kernel_rfl) (by kernel_rfl) fun _ _ h=>qe h
def E_z84:EnvP:=eQ [(85,s_z85),(111,s_z111),(112,s_z112),(113,s_z113),(114,s_z114)] 24 (some [1000004]) nC (fun x=>if x=0 then some [1] else none) nP
def C_z84:Code:=cO Tryz.f84
def R_z84:Array ResultVar:=Tryz.f84.results
def s_z84:Sp:=byE E_z84 C_z84 R_z84
theorem qml:gG 84 s_z84:=by
 refine qc G_stays (E:=E_z84) (fn:=Tryz.f84) (c:=C_z84) (qa rfl qt) (fun w S hg=>⟨⟨(qd (qhB w S hg) (qd (qkn w S hg) (qd (qkq w S hg) (qd (qkt w S hg) (qd (qfW w S hg) qh))))),fun f sp h=>qg f sp h w S⟩,qj w S hg,(fun _ _ h=>by cases h),(fun f sp h=>ql f sp h),(fun f it h=>qm f it h),(fun t kt vt h=>qi t kt vt h)⟩) follows Tryz.func84 (by kernel_rfl) (by kernel_rfl) (by kernel_rfl) fun _ _ h=>qe h
def E_z57:EnvP:=eQ [(29,s_z29),(81,s_z81),(82,s_z82),(83,s_z83),(84,s_z84),(85,s_z85)] 60 (some [2]) (fun x=>if x=11 then some [3,4,10,42,43,44] else none) (fun x=>if x=0 then some [3,4,10] else if x=1 then some [3,4,10,42,43,44] else none) nP
def C_z57:Code:=cO Tryz.f57
def R_z57:Array ResultVar:=Tryz.f57.results
def s_z57:Sp:=byE E_z57 C_z57 R_z57
theorem qmm:gG 57 s_z57:=by
 refine qc G_stays (E:=E_z57) (fn:=Tryz.f57) (c:=C_z57) (qa rfl qt) (fun w S hg=>⟨⟨(qd (qhA w S hg) (qd (qmj w S hg) (qd (qlP w S hg) (qd (qmk w S hg) (qd (qml w S hg) (qd (qhB w S hg) qh)))))),fun f sp h=>qg f sp h w S⟩,qj w S hg,(fun _ _ h=>by cases h),(fun f sp h=>ql f sp h),(fun f it h=>qm f it h),(fun t kt vt h=>qi t kt vt h)⟩) follows Tryz.func57 (by kernel_rfl) (by kernel_rfl) (by kernel_rfl) fun _ _ h=>qe h
def E_z38:EnvP:=⟨⟨tiOf tis,fnsOf [(37,s_z37),(56,s_z56),(57,s_z57)],cnsOf [],[],60,(fun x=>if x=4 then some [0,3,4,13,14,15] else if x=12 then some [0,3,4,7,9,13,14,15,37,38,39] else none),(fun x=>if x=0 then some [3] else if x=1 then some [0,3,4,13,14,15] else if x=2 then some [0,3,4,7,9,13,14,15] else if x=3 then some [0,3,4,7,9,13,14,15,37,38,39] else none),some [2]⟩,fun _=>none,fun _=>none,fun _=>[],fun _=>none,fun _=>none,fun _=>none,(fun x=>if x=95 then some (9,4) else none)⟩
def C_z38:Code:=cO Tryz.f38
def R_z38:Array ResultVar:=Tryz.f38.results
def s_z38:Sp:=byE E_z38 C_z38 R_z38
theorem qmn:gG 38 s_z38:=by
 refine qc G_stays (E:=E_z38) (fn:=Tryz.f38) (c:=C_z38) (qa rfl qt) (fun w S hg=>⟨⟨(qd (qcq w S hg) (qd (qmb w S hg) (qd (qmm w S hg) qh))),fun f sp h=>qg f sp h w S⟩,qj w S hg,(fun _ _ h=>by cases h),(fun f sp h=>ql f sp h),(fun f it h=>qm f it h),(fun t kt vt h=>(qgf (by kernel_rfl) qi) t kt vt h)⟩) follows Tryz.func38 (by kernel_rfl) (by kernel_rfl) (by kernel_rfl) fun _ _ h=>qe h
def qqB:EnvP:=eQ [] 46 (some [2,3,4]) (fun x=>if x=6 then some [5,6,19,20,21] else none) (fun x=>if x=0 then some [] else if x=1 then some [5,6,19,20,21] else if x=2 then some [5,6,19,20,21] else none) nP
def qqC:Code:=cO Tryz.f117
def qsj:Array ResultVar:=Tryz.f117.results
def s_z117:Sp:=byE qqB qqC qsj
theorem qfX:gG 117 s_z117:=by
 refine qc G_stays (E:=qqB) (fn:=Tryz.f117) (c:=qqC) (qa rfl qt) (fun w S hg=>⟨⟨qh,fun f sp h=>qg f sp h w S⟩,qj w S hg,(fun _ _ h=>by cases h),(fun f sp h=>ql f sp h),(fun f it h=>qm f it h),(fun t kt vt h=>qi t kt vt h)⟩) follows Tryz.func117 (by kernel_rfl) (by kernel_rfl) (by kernel_rfl) fun _ _ h=>qe h
def E_z86:EnvP:=eQ [(22,s_z22),(117,s_z117)] 26 (some [2]) nC (fun x=>if x=0 then some [] else none) nP
def C_z86:Code:=cO Tryz.f86
def R_z86:Array ResultVar:=Tryz.f86.results
def s_z86:Sp:=byE E_z86 C_z86 R_z86
theorem qmo:gG 86 s_z86:=by
 refine qc G_stays (E:=E_z86) (fn:=Tryz.f86) (c:=C_z86) (qa rfl qt) (fun w S hg=>⟨⟨(qd (qbz w S hg) (qd (qfX w S hg) qh)),fun f sp h=>qg f sp h w S⟩,qj w S hg,(fun _ _ h=>by cases h),(fun f sp h=>ql f sp h),(fun f it h=>qm f it h),(fun t kt vt h=>qi t kt vt h)⟩) follows Tryz.func86 (by kernel_rfl) (by kernel_rfl) (by kernel_rfl) fun _ _ h=>qe h
def E_z58:EnvP:=eQ [(20,s_z20),(86,s_z86)] 36 (some [2]) (fun x=>if x=3 then some [0,3,4] else none) (fun x=>if x=0 then some [0,3] else if x=1 then some [0,3,4] else none) nP
def C_z58:Code:=cO Tryz.f58
def R_z58:Array ResultVar:=Tryz.f58.results
def s_z58:Sp:=byE E_z58 C_z58 R_z58
theorem qmp:gG 58 s_z58:=by
 refine qc G_stays (E:=E_z58) (fn:=Tryz.f58) (c:=C_z58) (qa rfl qt) (fun w S hg=>⟨⟨(qd (qcp w S hg) (qd (qmo w S hg) qh)),fun f sp h=>qg f sp h w S⟩,qj w S hg,(fun _ _ h=>by cases h),(fun f sp h=>ql f sp h),(fun f it h=>qm f it h),(fun t kt vt h=>qi t kt vt h)⟩) follows Tryz.func58 (by kernel_rfl) (by kernel_rfl) (by kernel_rfl) fun _ _ h=>qe h
def E_z87:EnvP:=eQ [(33,s_z33),(36,s_z36),(117,s_z117)] 45 (some [1000004,5,6]) nC nC nP
def C_z87:Code:=cO Tryz.f87
def R_z87:Array ResultVar:=Tryz.f87.results
def s_z87:Sp:=byE E_z87 C_z87 R_z87
theorem qmq:gG 87 s_z87:=by
 refine qc G_stays (E:=E_z87) (fn:=Tryz.f87) (c:=C_z87) (qa rfl qt) (fun w S hg=>⟨⟨(qd (qdo w S hg) (qd (qfb w S hg) (qd (qfX w S hg) qh))),fun f sp h=>qg f sp h w S⟩,qj w S hg,(fun _ _ h=>by cases h),(fun f sp h=>ql f sp h),(fun f it h=>qm f it h),(fun t kt vt h=>qi t kt vt h)⟩) follows Tryz.func87 (by kernel_rfl) (by kernel_rfl) (by kernel_rfl) fun _ _ h=>qe h
def E_z88:EnvP:=eQ [(22,s_z22)] 8 (some [2]) nC nC nP
def C_z88:Code:=cO Tryz.f88
def R_z88:Array ResultVar:=Tryz.f88.results
def s_z88:Sp:=byE E_z88 C_z88 R_z88
theorem qmr:gG 88 s_z88:=by
 refine qc G_stays (E:=E_z88) (fn:=Tryz.f88) (c:=C_z88) (qa rfl qt) (fun w S hg=>⟨⟨(qd (qbz w S hg) qh),fun f sp h=>qg f sp h w S⟩,qj w S hg,(fun _ _ h=>by cases h),(fun f sp h=>ql f sp h),(fun f it h=>qm f it h),(fun t kt vt h=>qi t kt vt h)⟩) follows Tryz.func88 (by kernel_rfl) (by kernel_rfl) (by kernel_rfl) fun _ _ h=>qe h
def E_z46:EnvP:=eQ [(35,s_z35)] 21 (some [4]) (fun x=>if x=3 then some [1,5,8,9,10] else none) (fun x=>if x=0 then some [5] else if x=1 then some [1,5,8,9,10] else none) nP
def C_z46:Code:=cO Tryz.f46
def R_z46:Array ResultVar:=Tryz.f46.results
def s_z46:Sp:=byE E_z46 C_z46 R_z46
theorem qms:gG 46 s_z46:=by
 refine qc G_stays (E:=E_z46) (fn:=Tryz.f46) (c:=C_z46) (qa rfl qt) (fun w S hg=>⟨⟨(qd (qdp w S hg) qh),fun f sp h=>qg f sp h w S⟩,qj w S hg,(fun _ _ h=>by cases h),(fun f sp h=>ql f sp h),(fun f it h=>qm f it h),(fun t kt vt h=>qi t kt vt h)⟩) follows Tryz.func46 (by kernel_rfl) (by kernel_rfl) (by kernel_rfl) fun _ _ h=>qe h
def E_z31:EnvP:=eQ [(46,s_z46)] 11 (some [4]) nC nC nP
def C_z31:Code:=cO Tryz.f31
def R_z31:Array ResultVar:=Tryz.f31.results
def s_z31:Sp:=byE E_z31 C_z31 R_z31
theorem qhC:gG 31 s_z31:=by
 refine qc G_stays (E:=E_z31) (fn:=Tryz.f31) (c:=C_z31) (qa rfl qt) (fun w S hg=>⟨⟨(qd (qms w S hg) qh),fun f sp h=>qg f sp h w S⟩,qj w S hg,(fun _ _ h=>by cases h),(fun f sp h=>ql f sp h),(fun f it h=>qm f it h),(fun t kt vt h=>qi t kt vt h)⟩) follows Tryz.func31 (by kernel_rfl) (by kernel_rfl) (by kernel_rfl) fun _ _ h=>qe h
def qqD:EnvP:=eQ [(60,s_z60)] 21 (some [4]) nC nC nP
def qqE:Code:=cO Tryz.f150
def qsk:Array ResultVar:=Tryz.f150.results
def s_z150:Sp:=byE qqD qqE qsk
theorem qku:gG 150 s_z150:=by
 refine qc G_stays (E:=qqD) (fn:=Tryz.f150) (c:=qqE) (qa rfl qt) (fun w S hg=>⟨⟨(qd (qhw w S hg) qh),fun f sp h=>qg f sp h w S⟩,qj w S hg,(fun _ _ h=>by cases h),(fun f sp h=>ql f sp h),(fun f it h=>qm f it h),(fun t kt vt h=>qi t kt vt h)⟩) follows Tryz.func150 (by kernel_rfl) (by kernel_rfl) (by kernel_rfl) fun _ _ h=>qe h
def qqF:EnvP:=eQ [(150,s_z150)] 18 (some [4,5]) nC nC nP
def qqG:Code:=cO Tryz.f118
def qsl:Array ResultVar:=Tryz.f118.results
def s_z118:Sp:=byE qqF qqG qsl
theorem qkv:gG 118 s_z118:=by
 refine qc G_stays (E:=qqF) (fn:=Tryz.f118) (c:=qqG) (qa rfl qt) (fun w S hg=>⟨⟨(qd (qku w S hg) qh),fun f sp h=>qg f sp h w S⟩,qj w S hg,(fun _ _ h=>by cases h),(fun f sp h=>ql f sp h),(fun f it h=>qm f it h),(fun t kt vt h=>qi t kt vt h)⟩) follows Tryz.func118 (by kernel_rfl) (by kernel_rfl) (by kernel_rfl) fun _ _ h=>qe h
def qqH:EnvP:=eQ [(31,s_z31)] 44 (some [2]) (fun x=>if x=5 then some [3,30,31,32] else none) (fun x=>if x=0 then some [3] else if x=1 then some [3,30,31,32] else none) nP
def qqI:Code:=cO Tryz.f119
def qsm:Array ResultVar:=Tryz.f119.results
def s_z119:Sp:=byE qqH qqI qsm
theorem qkw:gG 119 s_z119:=by
 refine qc G_stays (E:=qqH) (fn:=Tryz.f119) (c:=qqI) (qa rfl qt) (fun w S hg=>⟨⟨(qd (qhC w S hg) qh),fun f sp h=>qg f sp h w S⟩,qj w S hg,(fun _ _ h=>by cases h),(fun f sp h=>ql f sp h),(fun f it h=>qm f it h),(fun t kt vt h=>qi t kt vt h)⟩) follows Tryz.func119 (by kernel_rfl) (by kernel_rfl) (by kernel_rfl) fun _ _ h=>qe h
def E_z89:EnvP:=eQ [(31,s_z31),(37,s_z37),(109,s_z109),(118,s_z118),(119,s_z119)] 52 (some [1000002,3,4]) nC nC nP
def C_z89:Code:=cO Tryz.f89
def R_z89:Array ResultVar:=Tryz.f89.results
def s_z89:Sp:=byE E_z89 C_z89 R_z89
theorem qmt:gG 89 s_z89:=by
 refine qc G_stays (E:=E_z89) (fn:=Tryz.f89) (c:=C_z89) (qa rfl qt) (fun w S hg=>⟨⟨(qd (qhC w S hg) (qd (qcq w S hg) (qd (qfT w S hg) (qd (qkv w S hg) (qd (qkw w S hg) qh))))),fun f sp h=>qg f sp h w S⟩,qj w S hg,(fun _ _ h=>by cases h),(fun f sp h=>ql f sp h),(fun f it h=>qm f it h),(fun t kt vt h=>qi t kt vt h)⟩) follows Tryz.func89 (by kernel_rfl) (by kernel_rfl) (by kernel_rfl) fun _ _ h=>qe h
def E_z59:EnvP:=eQ [(22,s_z22),(24,s_z24),(36,s_z36),(87,s_z87),(88,s_z88),(89,s_z89)] 61 (some [2,3]) nC nC nP
def C_z59:Code:=cO Tryz.f59
def R_z59:Array ResultVar:=Tryz.f59.results
def s_z59:Sp:=byE E_z59 C_z59 R_z59
theorem qmu:gG 59 s_z59:=by
 refine qc G_stays (E:=E_z59) (fn:=Tryz.f59) (c:=C_z59) (qa rfl qt) (fun w S hg=>⟨⟨(qd (qbz w S hg) (qd (qfa w S hg) (qd (qfb w S hg) (qd (qmq w S hg) (qd (qmr w S hg) (qd (qmt w S hg) qh)))))),fun f sp h=>qg f sp h w S⟩,qj w S hg,(fun _ _ h=>by cases h),(fun f sp h=>ql f sp h),(fun f it h=>qm f it h),(fun t kt vt h=>qi t kt vt h)⟩) follows Tryz.func59 (by kernel_rfl) (by kernel_rfl) (by kernel_rfl) fun _ _ h=>qe h
def E_z39:EnvP:=eQ [(58,s_z58),(59,s_z59)] 28 (some [2]) (fun x=>if x=3 then some [3,9,10,11] else none) (fun x=>if x=0 then some [3] else if x=1 then some [3,9,10,11] else none) nP
def C_z39:Code:=cO Tryz.f39
def R_z39:Array ResultVar:=Tryz.f39.results
def s_z39:Sp:=byE E_z39 C_z39 R_z39
theorem qmv:gG 39 s_z39:=by
 refine qc G_stays (E:=E_z39) (fn:=Tryz.f39) (c:=C_z39) (qa rfl qt) (fun w S hg=>⟨⟨(qd (qmp w S hg) (qd (qmu w S hg) qh)),fun f sp h=>qg f sp h w S⟩,qj w S hg,(fun _ _ h=>by cases h),(fun f sp h=>ql f sp h),(fun f it h=>qm f it h),(fun t kt vt h=>qi t kt vt h)⟩) follows Tryz.func39 (by kernel_rfl) (by kernel_rfl) (by kernel_rfl) fun _ _ h=>qe h
def E_z25:EnvP:=eQ [(38,s_z38),(39,s_z39)] 6 (some [2]) nC nC nP
def C_z25:Code:=cO Tryz.f25
def R_z25:Array ResultVar:=Tryz.f25.results
def s_z25:Sp:=byE E_z25 C_z25 R_z25
theorem qmw:gG 25 s_z25:=by
 refine qc G_stays (E:=E_z25) (fn:=Tryz.f25) (c:=C_z25) (qa rfl qt) (fun w S hg=>⟨⟨(qd (qmn w S hg) (qd (qmv w S hg) qh)),fun f sp h=>qg f sp h w S⟩,qj w S hg,(fun _ _ h=>by cases h),(fun f sp h=>ql f sp h),(fun f it h=>qm f it h),(fun t kt vt h=>qi t kt vt h)⟩) follows Tryz.func25 (by kernel_rfl) (by kernel_rfl) (by kernel_rfl) fun _ _ h=>qe h
end
end
end Go.Av
