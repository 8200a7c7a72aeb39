import Derived.Test.YtmageajchmoomaaGreatDoorCtEvB
import Derived.Test.YtmageajchmoomaaGreatDoorCtD
import Derived.Test.YtmageajchmoomaaGreatDoorAvE
import Derived.Test.YtmageajchmoomaaGreatDoorProg
import Derived.KernelRfl
namespace Go.Av
set_option linter.unusedSimpArgs false
set_option linter.unusedVariables false
section
noncomputable section
open Go.Proofs
set_option maxRecDepth 100000
set_option linter.unusedVariables false
def E_z29:EnvP:=⟨⟨tiOf tis,fnsOf [(37,s_z37),(45,s_z45)],cnsOf [],[],18,(fun _=>none),(fun _=>none),some [2,3]⟩,fun _=>none,fun _=>none,fun _=>[],fun _=>none,(fun x=>if x=44 then some s_z44 else none),fun _=>none,(fun x=>if x=81 then some (9,3) else none)⟩
def C_z29:Code:=cO Tryz.f29
def R_z29:Array ResultVar:=Tryz.f29.results
def s_z29:Sp:=byE E_z29 C_z29 R_z29
theorem qhA:gG 29 s_z29:=by
 refine qc G_stays (E:=E_z29) (fn:=Tryz.f29) (c:=C_z29) (qa rfl qt) (fun w S hg=>⟨⟨(qd (qcq w S hg) (qd (qmi w S hg) qh)),fun f sp h=>qg f sp h w S⟩,qj w S hg,(fun _ _ h=>by cases h),(fun f sp h=>(qmY (qmf w S hg) ql) f sp h),(fun f it h=>qm f it h),(fun t kt vt h=>(qgf (by kernel_rfl) qi) t kt vt h)⟩) follows Tryz.func29 (by kernel_rfl) (by kernel_rfl) (by kernel_rfl) fun _ _ h=>qe h
theorem qjZ:gG 143 s_z143:=fun w S hg vals avs r h hS ha=>by
 unfold s_z143 at h;split at h
 ·obtain ⟨hp,rfl⟩:=yj h;exact qgI qhz (fun _ _ _ _=>rfl) hS ha hp
 ·cases h
def qpF:EnvP:=eQ [(143,s_z143)] 23 (some [4,1000005,6]) nC nC nP
def qpG:Code:=cO Tryz.f109
def qrL:Array ResultVar:=Tryz.f109.results
def s_z109:Sp:=byE qpF qpG qrL
theorem qfT:gG 109 s_z109:=by
 refine qc G_stays (E:=qpF) (fn:=Tryz.f109) (c:=qpG) (qa rfl qt) (fun w S hg=>⟨⟨(qd (qjZ w S hg) qh),fun f sp h=>qg f sp h w S⟩,qj w S hg,(fun _ _ h=>by cases h),(fun f sp h=>ql f sp h),(fun f it h=>qm f it h),(fun t kt vt h=>qi t kt vt h)⟩) follows Tryz.func109 (by kernel_rfl) (by kernel_rfl) (by kernel_rfl) fun _ _ h=>qe h
def E_z81:EnvP:=eQ [(20,s_z20),(109,s_z109)] 33 (some [2,3,4]) nC nC nP
def C_z81:Code:=cO Tryz.f81
def R_z81:Array ResultVar:=Tryz.f81.results
def s_z81:Sp:=byE E_z81 C_z81 R_z81
theorem qmj:gG 81 s_z81:=by
 refine qc G_stays (E:=E_z81) (fn:=Tryz.f81) (c:=C_z81) (qa rfl qt) (fun w S hg=>⟨⟨(qd (qcp w S hg) (qd (qfT w S hg) qh)),fun f sp h=>qg f sp h w S⟩,qj w S hg,(fun _ _ h=>by cases h),(fun f sp h=>ql f sp h),(fun f it h=>qm f it h),(fun t kt vt h=>qi t kt vt h)⟩) follows Tryz.func81 (by kernel_rfl) (by kernel_rfl) (by kernel_rfl) fun _ _ h=>qe h
def qpH:EnvP:=eQ [] 9 (some [11]) nC nC (fun x=>if x=5 then some (.osl 5 .byte) else if x=8 then some (.osl 5 .byte) else none)
def qpI:Code:=cO Tryz.f145
def qrM:Array ResultVar:=Tryz.f145.results
def s_z145:Sp:=byM qpH qpI qrM
theorem qka:qfC G Tryz.prog 145 s_z145:=by
 refine qaa G_stays (E:=qpH) (fn:=Tryz.f145) (c:=qpI) (qa rfl qt) (fun w S hg=>⟨⟨qh,fun f sp h=>qg f sp h w S⟩,qj w S hg,(fun _ _ h=>by cases h),(fun f sp h=>ql f sp h),(fun f it h=>qm f it h),(fun t kt vt h=>qi t kt vt h)⟩) follows Tryz.func145 (by kernel_rfl) (by kernel_rfl) (by kernel_rfl) fun _ _ h=>qbI h
def qpJ:EnvP:=eQ [(30,s_z30),(35,s_z35)] 23 (some [2,3]) nC (fun x=>if x=0 then some [] else none) nP
def qpK:Code:=cO Tryz.f183
def qrN:Array ResultVar:=Tryz.f183.results
def s_z183:Sp:=byE qpJ qpK qrN
theorem qkb:gG 183 s_z183:=by
 refine qc G_stays (E:=qpJ) (fn:=Tryz.f183) (c:=qpK) (qa rfl qt) (fun w S hg=>⟨⟨(qd (qeZ w S hg) (qd (qdp w S hg) qh)),fun f sp h=>qg f sp h w S⟩,qj w S hg,(fun _ _ h=>by cases h),(fun f sp h=>ql f sp h),(fun f it h=>qm f it h),(fun t kt vt h=>qi t kt vt h)⟩) follows Tryz.func183 (by kernel_rfl) (by kernel_rfl) (by kernel_rfl) fun _ _ h=>qe h
def qpL:EnvP:=eQ [(183,s_z183)] 31 (some [4,5]) nC nC nP
def qpM:Code:=cO Tryz.f176
def qrO:Array ResultVar:=Tryz.f176.results
def s_z176:Sp:=byE qpL qpM qrO
theorem qkc:gG 176 s_z176:=by
 refine qc G_stays (E:=qpL) (fn:=Tryz.f176) (c:=qpM) (qa rfl qt) (fun w S hg=>⟨⟨(qd (qkb w S hg) qh),fun f sp h=>qg f sp h w S⟩,qj w S hg,(fun _ _ h=>by cases h),(fun f sp h=>ql f sp h),(fun f it h=>qm f it h),(fun t kt vt h=>qi t kt vt h)⟩) follows Tryz.func176 (by kernel_rfl) (by kernel_rfl) (by kernel_rfl) fun _ _ h=>qe h
def qpN:EnvP:=eQ [(176,s_z176)] 38 (some [6,7]) nC nC nP
def qpO:Code:=cO Tryz.f166
def qrP:Array ResultVar:=Tryz.f166.results
def s_z166:Sp:=byE qpN qpO qrP
theorem qkd:gG 166 s_z166:=by
 refine qc G_stays (E:=qpN) (fn:=Tryz.f166) (c:=qpO) (qa rfl qt) (fun w S hg=>⟨⟨(qd (qkc w S hg) qh),fun f sp h=>qg f sp h w S⟩,qj w S hg,(fun _ _ h=>by cases h),(fun f sp h=>ql f sp h),(fun f it h=>qm f it h),(fun t kt vt h=>qi t kt vt h)⟩) follows Tryz.func166 (by kernel_rfl) (by kernel_rfl) (by kernel_rfl) fun _ _ h=>qe h
def qpP:EnvP:=⟨⟨tiOf tis,fnsOf [(166,s_z166)],cnsOf [],[],32,(fun x=>if x=1 then some [0,1,4,33] else none),(fun x=>if x=0 then some [33] else if x=1 then some [0,1,4,33] else none),some [33]⟩,fun _=>none,fun _=>none,fun _=>[],(fun x=>if x=145 then some s_z145 else none),fun _=>none,fun _=>none,fun _=>none⟩
def qpQ:Code:=cO Tryz.f144
def qrQ:Array ResultVar:=Tryz.f144.results
def s_z144:Sp:=byM qpP qpQ qrQ
theorem qke:qfC G Tryz.prog 144 s_z144:=by
 refine qaa G_stays (E:=qpP) (fn:=Tryz.f144) (c:=qpQ) (qa rfl qt) (fun w S hg=>⟨⟨(qd (qkd w S hg) qh),fun f sp h=>qg f sp h w S⟩,qj w S hg,(fun f sp h=>(qbJ (qka w S hg) qdt) f sp h),(fun _ _ h=>by cases h),(fun _ _ h=>by cases h),(fun t kt vt h=>qi t kt vt h)⟩) follows Tryz.func144 (by kernel_rfl) (by kernel_rfl) (by kernel_rfl) fun _ _ h=>qbI h
def qpR:EnvP:=⟨⟨tiOf tis,fnsOf [],cnsOf [],[],8,(fun _=>none),(fun _=>none),some [2]⟩,(fun x=>if x=3 then some (.osl 5 .byte) else none),fun _=>none,fun _=>[],(fun x=>if x=144 then some s_z144 else none),fun _=>none,fun _=>none,fun _=>none⟩
def qpS:Code:=cO Tryz.f110
def qrR:Array ResultVar:=Tryz.f110.results
def s_z110:Sp:=byE qpR qpS qrR
theorem qkf:gG 110 s_z110:=by
 refine qc G_stays (E:=qpR) (fn:=Tryz.f110) (c:=qpS) (qa rfl qt) (fun w S hg=>⟨⟨qh,fun f sp h=>qg f sp h w S⟩,qj w S hg,(fun f sp h=>(qbJ (qke w S hg) qdt) f sp h),(fun f sp h=>ql f sp h),(fun f it h=>qm f it h),(fun t kt vt h=>qi t kt vt h)⟩) follows Tryz.func110 (by kernel_rfl) (by kernel_rfl) (by kernel_rfl) fun _ _ h=>qe h
def E_z83:EnvP:=eQ [(110,s_z110)] 10 (some [2]) nC nC nP
def C_z83:Code:=cO Tryz.f83
def R_z83:Array ResultVar:=Tryz.f83.results
def s_z83:Sp:=byE E_z83 C_z83 R_z83
theorem qmk:gG 83 s_z83:=by
 refine qc G_stays (E:=E_z83) (fn:=Tryz.f83) (c:=C_z83) (qa rfl qt) (fun w S hg=>⟨⟨(qd (qkf w S hg) qh),fun f sp h=>qg f sp h w S⟩,qj w S hg,(fun _ _ h=>by cases h),(fun f sp h=>ql f sp h),(fun f it h=>qm f it h),(fun t kt vt h=>qi t kt vt h)⟩) follows Tryz.func83 (by kernel_rfl) (by kernel_rfl) (by kernel_rfl) fun _ _ h=>qe h
def qpT:EnvP:=eQ [] 11 (some [13]) nC nC (fun x=>if x=7 then some (.osl 21 (.int .i32)) else if x=10 then some (.osl 21 (.int .i32)) else none)
def qpU:Code:=cO Tryz.f116
def qrS:Array ResultVar:=Tryz.f116.results
def s_z116:Sp:=byM qpT qpU qrS
theorem qkg:qfC G Tryz.prog 116 s_z116:=by
 refine qaa G_stays (E:=qpT) (fn:=Tryz.f116) (c:=qpU) (qa rfl qt) (fun w S hg=>⟨⟨qh,fun f sp h=>qg f sp h w S⟩,qj w S hg,(fun _ _ h=>by cases h),(fun f sp h=>ql f sp h),(fun f it h=>qm f it h),(fun t kt vt h=>qi t kt vt h)⟩) follows Tryz.func116 (by kernel_rfl) (by kernel_rfl) (by kernel_rfl) fun _ _ h=>qbI h
def qpV:EnvP:=eQ [] 10 (some [2]) nC (fun x=>if x=0 then some [] else none) nP
def qpW:Code:=cO Tryz.f157
def qrT:Array ResultVar:=Tryz.f157.results
def s_z157:Sp:=byE qpV qpW qrT
theorem qkh:gG 157 s_z157:=by
 refine qc G_stays (E:=qpV) (fn:=Tryz.f157) (c:=qpW) (qa rfl qt) (fun w S hg=>⟨⟨qh,fun f sp h=>qg f sp h w S⟩,qj w S hg,(fun _ _ h=>by cases h),(fun f sp h=>ql f sp h),(fun f it h=>qm f it h),(fun t kt vt h=>qi t kt vt h)⟩) follows Tryz.func157 (by kernel_rfl) (by kernel_rfl) (by kernel_rfl) fun _ _ h=>qe h
def qpX:EnvP:=eQ [] 19 (some [2]) nC (fun x=>if x=0 then some [] else none) nP
def qpY:Code:=cO Tryz.f168
def qrU:Array ResultVar:=Tryz.f168.results
def s_z168:Sp:=byE qpX qpY qrU
theorem qfU:gG 168 s_z168:=by
 refine qc G_stays (E:=qpX) (fn:=Tryz.f168) (c:=qpY) (qa rfl qt) (fun w S hg=>⟨⟨qh,fun f sp h=>qg f sp h w S⟩,qj w S hg,(fun _ _ h=>by cases h),(fun f sp h=>ql f sp h),(fun f it h=>qm f it h),(fun t kt vt h=>qi t kt vt h)⟩) follows Tryz.func168 (by kernel_rfl) (by kernel_rfl) (by kernel_rfl) fun _ _ h=>qe h
def qpZ:EnvP:=eQ [] 6 (some [2]) nC nC nP
def qqa:Code:=cO Tryz.f177
def qrV:Array ResultVar:=Tryz.f177.results
def s_z177:Sp:=byE qpZ qqa qrV
theorem qfV:gG 177 s_z177:=by
 refine qc G_stays (E:=qpZ) (fn:=Tryz.f177) (c:=qqa) (qa rfl qt) (fun w S hg=>⟨⟨qh,fun f sp h=>qg f sp h w S⟩,qj w S hg,(fun _ _ h=>by cases h),(fun f sp h=>ql f sp h),(fun f it h=>qm f it h),(fun t kt vt h=>qi t kt vt h)⟩) follows Tryz.func177 (by kernel_rfl) (by kernel_rfl) (by kernel_rfl) fun _ _ h=>qe h
def qqb:EnvP:=eQ [(177,s_z177)] 40 (some [4]) nC (fun x=>if x=0 then some [1] else none) nP
def qqc:Code:=cO Tryz.f178
def qrW:Array ResultVar:=Tryz.f178.results
def s_z178:Sp:=byE qqb qqc qrW
theorem qki:gG 178 s_z178:=by
 refine qc G_stays (E:=qqb) (fn:=Tryz.f178) (c:=qqc) (qa rfl qt) (fun w S hg=>⟨⟨(qd (qfV w S hg) qh),fun f sp h=>qg f sp h w S⟩,qj w S hg,(fun _ _ h=>by cases h),(fun f sp h=>ql f sp h),(fun f it h=>qm f it h),(fun t kt vt h=>qi t kt vt h)⟩) follows Tryz.func178 (by kernel_rfl) (by kernel_rfl) (by kernel_rfl) fun _ _ h=>qe h
def qqd:EnvP:=eQ [(168,s_z168),(177,s_z177),(178,s_z178)] 45 (some [2]) (fun x=>if x=2 then some [0,3] else none) (fun x=>if x=0 then some [0,3] else if x=1 then some [0,3] else none) nP
def qqe:Code:=cO Tryz.f167
def qrX:Array ResultVar:=Tryz.f167.results
def s_z167:Sp:=byE qqd qqe qrX
theorem qkj:gG 167 s_z167:=by
 refine qc G_stays (E:=qqd) (fn:=Tryz.f167) (c:=qqe) (qa rfl qt) (fun w S hg=>⟨⟨(qd (qfU w S hg) (qd (qfV w S hg) (qd (qki w S hg) qh))),fun f sp h=>qg f sp h w S⟩,qj w S hg,(fun _ _ h=>by cases h),(fun f sp h=>ql f sp h),(fun f it h=>qm f it h),(fun t kt vt h=>qi t kt vt h)⟩) follows Tryz.func167 (by kernel_rfl) (by kernel_rfl) (by kernel_rfl) fun _ _ h=>qe h
def qqf:EnvP:=eQ [(157,s_z157),(167,s_z167),(168,s_z168)] 63 (some [2,3,4]) (fun x=>if x=12 then some [5,6,48,49,50] else none) (fun x=>if x=0 then some [0,5] else if x=1 then some [5,6] else if x=2 then some [5,6,48,49,50] else none) nP
def qqg:Code:=cO Tryz.f149
def qrY:Array ResultVar:=Tryz.f149.results
def s_z149:Sp:=byE qqf qqg qrY
theorem qkk:gG 149 s_z149:=by
 refine qc G_stays (E:=qqf) (fn:=Tryz.f149) (c:=qqg) (qa rfl qt) (fun w S hg=>⟨⟨(qd (qkh w S hg) (qd (qkj w S hg) (qd (qfU w S hg) qh))),fun f sp h=>qg f sp h w S⟩,qj w S hg,(fun _ _ h=>by cases h),(fun f sp h=>ql f sp h),(fun f it h=>qm f it h),(fun t kt vt h=>qi t kt vt h)⟩) follows Tryz.func149 (by kernel_rfl) (by kernel_rfl) (by kernel_rfl) fun _ _ h=>qe h
def qqh:EnvP:=⟨⟨tiOf tis,fnsOf [(149,s_z149)],cnsOf [],[],23,(fun x=>if x=0 then some [0,1,24] else none),(fun x=>if x=0 then some [24] else if x=1 then some [0,1,24] else none),some [24]⟩,fun _=>none,fun _=>none,fun _=>[],(fun x=>if x=116 then some s_z116 else none),fun _=>none,fun _=>none,fun _=>none⟩
def qqi:Code:=cO Tryz.f115
def qrZ:Array ResultVar:=Tryz.f115.results
def s_z115:Sp:=byM qqh qqi qrZ
theorem qkl:qfC G Tryz.prog 115 s_z115:=by
 refine qaa G_stays (E:=qqh) (fn:=Tryz.f115) (c:=qqi) (qa rfl qt) (fun w S hg=>⟨⟨(qd (qkk w S hg) qh),fun f sp h=>qg f sp h w S⟩,qj w S hg,(fun f sp h=>(qbJ (qkg w S hg) qdt) f sp h),(fun _ _ h=>by cases h),(fun _ _ h=>by cases h),(fun t kt vt h=>qi t kt vt h)⟩) follows Tryz.func115 (by kernel_rfl) (by kernel_rfl) (by kernel_rfl) fun _ _ h=>qbI h
def E_z85:EnvP:=⟨⟨tiOf tis,fnsOf [],cnsOf [],[],8,(fun _=>none),(fun _=>none),some [2]⟩,(fun x=>if x=3 then some (.osl 21 (.int .i32)) else none),fun _=>none,fun _=>[],(fun x=>if x=115 then some s_z115 else none),fun _=>none,fun _=>none,fun _=>none⟩
def C_z85:Code:=cO Tryz.f85
def R_z85:Array ResultVar:=Tryz.f85.results
def s_z85:Sp:=byE E_z85 C_z85 R_z85
theorem qhB:gG 85 s_z85:=by
 refine qc G_stays (E:=E_z85) (fn:=Tryz.f85) (c:=C_z85) (qa rfl qt) (fun w S hg=>⟨⟨qh,fun f sp h=>qg f sp h w S⟩,qj w S hg,(fun f sp h=>(qbJ (qkl w S hg) qdt) f sp h),(fun f sp h=>ql f sp h),(fun f it h=>qm f it h),(fun t kt vt h=>qi t kt vt h)⟩) follows Tryz.func85 (by kernel_rfl) (by kernel_rfl) (by kernel_rfl) fun _ _ h=>qe h
def qqj:EnvP:=eQ [] 23 (some [2]) (fun x=>if x=3 then some [3,9,10,11] else none) (fun x=>if x=0 then some [3] else if x=1 then some [3,9,10,11] else none) (fun x=>if x=8 then some (.psl 21 (.leaf (.int .i32))) else none)
def qqk:Code:=cO Tryz.f114
def qsa:Array ResultVar:=Tryz.f114.results
def s_z114:Sp:=byE qqj qqk qsa
theorem qfW:gG 114 s_z114:=by
 refine qc G_stays (E:=qqj) (fn:=Tryz.f114) (c:=qqk) (qa rfl qt) (fun w S hg=>⟨⟨qh,fun f sp h=>qg f sp h w S⟩,qj w S hg,(fun _ _ h=>by cases h),(fun f sp h=>ql f sp h),(fun f it h=>qm f it h),(fun t kt vt h=>qi t kt vt h)⟩) follows Tryz.func114 (by kernel_rfl) (by kernel_rfl) (by kernel_rfl) fun _ _ h=>qe h
def qql:EnvP:=eQ [] 6 (some [2]) nC nC nP
def qqm:Code:=cO Tryz.f146
def qsb:Array ResultVar:=Tryz.f146.results
def s_z146:Sp:=byE qql qqm qsb
theorem qkm:gG 146 s_z146:=by
 refine qc G_stays (E:=qql) (fn:=Tryz.f146) (c:=qqm) (qa rfl qt) (fun w S hg=>⟨⟨qh,fun f sp h=>qg f sp h w S⟩,qj w S hg,(fun _ _ h=>by cases h),(fun f sp h=>ql f sp h),(fun f it h=>qm f it h),(fun t kt vt h=>qi t kt vt h)⟩) follows Tryz.func146 (by kernel_rfl) (by kernel_rfl) (by kernel_rfl) fun _ _ h=>qe h
def qqn:EnvP:=eQ [(114,s_z114),(146,s_z146)] 24 (some [2]) (fun x=>if x=4 then some [3,4,9,10,11] else none) (fun x=>if x=0 then some [3] else if x=1 then some [3,4,9,10,11] else none) (fun x=>if x=8 then some (.psl 21 (.leaf (.int .i32))) else none)
def qqo:Code:=cO Tryz.f111
def qsc:Array ResultVar:=Tryz.f111.results
def s_z111:Sp:=byE qqn qqo qsc
theorem qkn:gG 111 s_z111:=by
 refine qc G_stays (E:=qqn) (fn:=Tryz.f111) (c:=qqo) (qa rfl qt) (fun w S hg=>⟨⟨(qd (qfW w S hg) (qd (qkm w S hg) qh)),fun f sp h=>qg f sp h w S⟩,qj w S hg,(fun _ _ h=>by cases h),(fun f sp h=>ql f sp h),(fun f it h=>qm f it h),(fun t kt vt h=>qi t kt vt h)⟩) follows Tryz.func111 (by kernel_rfl) (by kernel_rfl) (by kernel_rfl) fun _ _ h=>qe h
end
end
end Go.Av
