import Derived.Test.YtmageajchmoomaaGreatDoorCtEvA
import Derived.Test.YtmageajchmoomaaGreatDoorCtD
import Derived.Test.YtmageajchmoomaaGreatDoorAvE
import Derived.Test.YtmageajchmoomaaGreatDoorProg
import Derived.KernelRfl
namespace Go.Av
set_option linter.unusedSimpArgs false
set_option linter.unusedVariables false
section
noncomputable section
open Go.Proofs
set_option maxRecDepth 100000
set_option linter.unusedVariables false
def E_z24:EnvP:=eQ [(22,s_z22),(33,s_z33)] 29 (some [6,7]) nC nC nP
def C_z24:Code:=cO Tryz.f24
def R_z24:Array ResultVar:=Tryz.f24.results
def s_z24:Sp:=byE E_z24 C_z24 R_z24
theorem qfa:gG 24 s_z24:=by
 refine qc G_stays (E:=E_z24) (fn:=Tryz.f24) (c:=C_z24) (qa rfl qt) (fun w S hg=>⟨⟨(qd (qbz w S hg) (qd (qdo w S hg) qh)),fun f sp h=>qg f sp h w S⟩,qj w S hg,(fun _ _ h=>by cases h),(fun f sp h=>ql f sp h),(fun f it h=>qm f it h),(fun t kt vt h=>qi t kt vt h)⟩) follows Tryz.func24 (by kernel_rfl) (by kernel_rfl) (by kernel_rfl) fun _ _ h=>qe h
def E_z36:EnvP:=eQ [(20,s_z20),(33,s_z33),(35,s_z35)] 40 (some [4,5,6]) (fun x=>if x=3 then some [0,1,7] else none) (fun x=>if x=0 then some [0,1,7] else if x=1 then some [0,1,7] else if x=2 then some [0,1,7] else none) nP
def C_z36:Code:=cO Tryz.f36
def R_z36:Array ResultVar:=Tryz.f36.results
def s_z36:Sp:=byE E_z36 C_z36 R_z36
theorem qfb:gG 36 s_z36:=by
 refine qc G_stays (E:=E_z36) (fn:=Tryz.f36) (c:=C_z36) (qa rfl qt) (fun w S hg=>⟨⟨(qd (qcp w S hg) (qd (qdo w S hg) (qd (qdp w S hg) qh))),fun f sp h=>qg f sp h w S⟩,qj w S hg,(fun _ _ h=>by cases h),(fun f sp h=>ql f sp h),(fun f it h=>qm f it h),(fun t kt vt h=>qi t kt vt h)⟩) follows Tryz.func36 (by kernel_rfl) (by kernel_rfl) (by kernel_rfl) fun _ _ h=>qe h
def E_z37:EnvP:=eQ [(20,s_z20),(30,s_z30)] 22 (some [2]) (fun x=>if x=3 then some [3,8,9,10] else none) (fun x=>if x=0 then some [3] else if x=1 then some [3,8,9,10] else none) (fun x=>if x=7 then some (.psl 5 (.leaf .byte)) else none)
def C_z37:Code:=cO Tryz.f37
def R_z37:Array ResultVar:=Tryz.f37.results
noncomputable def qjR (K:KT):=fun out3=>K (.exit 0) (frOf [(3,(.pv (.psl 5 (.leaf .byte)) out3 none))])
def qpo (n:Nat):KT:=qbd 0 (E_z37.cutb 0) (kSeq (evCP E_z37 (evLP E_z37 n) (sub C_z37 [1,1,1])) (kFnP E_z37 R_z37))
def qpp (out3:List UInt8) (s9:Int) (s10:Int):Fr:=frOf [(3,(.pv (.psl 5 (.leaf .byte)) out3 none)),(8,(.pval 3 [])),(9,db s9),(10,db s10)]
theorem qlZ (K:KT) (n:Nat):(fun out3 s9 s10=>evLP E_z37 n (sub C_z37 [1,1,0,1,0,0]) K (qpp out3 s9 s10))=qfZ (qjR K) n:=by
 induction n
 kernel_rfl;rename_i n ih;show _=qcO (qjR K) (qfZ (qjR K) n) n;rw [← ih];kernel_rfl
theorem qrD (n:Nat) (s0:List UInt8) (o0:Lab):evFnP E_z37 n C_z37 R_z37 [da s0 o0]=qmy n s0:=by
 unfold qmy;rw [(Eq.trans (by kernel_rfl) (qlZ (qpo n) n).symm:qfZ (qgF n) n=_)];kernel_rfl
theorem qcq:gG 37 s_z37:=sQ (E:=E_z37) (c:=C_z37) rfl (fC qcp (fC qeZ fN)) Tryz.func37 fun avs r h=>by
 unfold s_z37 at h;split at h
 ·obtain ⟨hp,rfl⟩:=yj h;exact eX (qok _ hp) fun n=>qrD n _ _
 ·cases h
def E_z23:EnvP:=eQ [(22,s_z22),(24,s_z24),(36,s_z36),(37,s_z37)] 48 (some [2,3,4]) nC nC nP
def C_z23:Code:=cO Tryz.f23
def R_z23:Array ResultVar:=Tryz.f23.results
def s_z23:Sp:=byE E_z23 C_z23 R_z23
theorem qma:gG 23 s_z23:=by
 refine qc G_stays (E:=E_z23) (fn:=Tryz.f23) (c:=C_z23) (qa rfl qt) (fun w S hg=>⟨⟨(qd (qbz w S hg) (qd (qfa w S hg) (qd (qfb w S hg) (qd (qcq w S hg) qh)))),fun f sp h=>qg f sp h w S⟩,qj w S hg,(fun _ _ h=>by cases h),(fun f sp h=>ql f sp h),(fun f it h=>qm f it h),(fun t kt vt h=>qi t kt vt h)⟩) follows Tryz.func23 (by kernel_rfl) (by kernel_rfl) (by kernel_rfl) fun _ _ h=>qe h
theorem qhw:gG 60 s_z60:=sY [] 10 (some [4]) fN Tryz.func60 fun avs r h=>by
 unfold s_z60 at h;split at h <;> cases h
 exact eX (qol _ _)
theorem qhx:gG 42 s_z42:=sY [(37,s_z37),(60,s_z60)] 10 (some [4]) (fC qcq (fC qhw fN)) Tryz.func42 fun avs r h=>by
 unfold s_z42 at h;split at h
 ·obtain ⟨hp,rfl⟩:=yj h;exact eX (qoo _ _ hp)
 ·cases h
theorem qmb:gG 56 s_z56:=fun w S hg vals avs r h hS ha=>by
 unfold s_z56 at h;split at h
 ·obtain ⟨hp,rfl⟩:=yj h;exact qiq qhx (fun _ _ _ _=>rfl) hS ha hp
 ·cases h
theorem qmc:gG 61 s_z61:=sZ [] 19 (some [2]) nC (fun x=>if x=0 then some [] else none) nP fN Tryz.func61 fun avs r h=>by
 unfold s_z61 at h;split at h <;> cases h
 exact eX (qoh _)
def E_z44:EnvP:=⟨⟨tiOf tis,fnsOf [(61,s_z61)],cnsOf [],[],22,(fun x=>if x=3 then some [1,2] else if x=6 then some [1,2,11,12,13] else none),(fun x=>if x=0 then some [1] else if x=1 then some [1,2] else if x=2 then some [1,2] else if x=3 then some [1,2,11,12,13] else none),none⟩,fun _=>none,fun _=>none,fun _=>[],fun _=>none,fun _=>none,fun _=>none,(fun x=>if x=81 then some (9,3) else none)⟩
def C_z44:Code:=cO Tryz.f44
def R_z44:Array ResultVar:=Tryz.f44.results
def qjS (m1:List ((List UInt8)×Int)) (n2:Int):Fr:=frOf [(1,(.abs (.sl (.pair .str (.int .i64))) (qgs .str (.int .i64)) m1)),(2,db n2)]
noncomputable def qjT (K:KT):=fun m1 n2=>K (.exit 2) (qjS m1 n2)
noncomputable def qhy (K:KT):=fun m1=>K (.exit 0) (frOf [(1,(.abs (.sl (.pair .str (.int .i64))) (qgs .str (.int .i64)) m1))])
def qpq (n:Nat) (K:KT):KT:=qbd 2 (E_z44.cutb 2) (qbd 1 (E_z44.cutb 1) (kSeq (evCP E_z44 (evLP E_z44 n) (sub C_z44 [1,1,0,1,0,0,1,1])) (kSeq (fun K fr=>evLP E_z44 n (sub C_z44 [1,1,0,1,0,0]) K (cutFP (E_z44.cuts 3) fr)) K)))
def qpr (n:Nat):KT:=qbd 0 (E_z44.cutb 0) (kSeq (evCP E_z44 (evLP E_z44 n) (sub C_z44 [1,1,1])) (kFnR R_z44))
def qps (m1:List ((List UInt8)×Int)) (n2:Int) (s11:List (List UInt8)) (s12:Int) (s13:Int):Fr:=frOf [(1,(.abs (.sl (.pair .str (.int .i64))) (qgs .str (.int .i64)) m1)),(2,db n2),(11,(.dat (.sl .str) s11 (some (11,9)))),(12,db s12),(13,db s13)]
theorem qmd (K:KT) (n:Nat):(fun m1 n2 s11 s12 s13=>evLP E_z44 n (sub C_z44 [1,1,0,1,0,0,1,0,0,1,0,0]) K (qps m1 n2 s11 s12 s13))=qkA (qjT K) n:=by
 induction n
 kernel_rfl;rename_i n ih;show _=qkz (qjT K) (qkA (qjT K) n) n;rw [← ih];kernel_rfl
theorem qme (K:KT) (n:Nat):(fun m1 n2=>evLP E_z44 n (sub C_z44 [1,1,0,1,0,0]) K (qjS m1 n2))=qkC (qhy K) n:=by
 induction n
 kernel_rfl;rename_i n ih;funext m1 n2;show _=qgG (qhy K) (qkC (qhy K) n) n m1 n2;rw [← ih];unfold qgG;rw [(Eq.trans (by kernel_rfl) (qmd (qpq n K) n).symm:qkA (qkB (qhy K) (fun m1 n2=>evLP E_z44 n (sub C_z44 [1,1,0,1,0,0]) K (qjS m1 n2)) n) n=_)];kernel_rfl
theorem qrE (n:Nat)  : evFnR E_z44 n C_z44 R_z44 []=qof n  := by
 unfold qof;rw [(Eq.trans (by kernel_rfl) (qme (qpr n) n).symm:qkC (qkD n) n=_)];kernel_rfl
theorem qmf:qoV G Tryz.prog 44 s_z44:=by
 refine qge G_stays (E:=E_z44) (fn:=Tryz.f44) (c:=C_z44) (qa rfl qt) (fun w S hg=>⟨⟨(qd (qmc w S hg) qh),fun f sp h=>qg f sp h w S⟩,qj w S hg,(fun _ _ h=>by cases h),(fun f sp h=>ql f sp h),(fun f it h=>qm f it h),(fun t kt vt h=>(qgf (by kernel_rfl) qi) t kt vt h)⟩) follows Tryz.func44 (by kernel_rfl) (by kernel_rfl) (by kernel_rfl) ?_;intro avs r h;unfold s_z44 at h;split at h <;> cases h
 obtain ⟨n,hn⟩:=qon;exact ⟨n,(qrE n ).trans hn⟩
theorem qhz:gG 62 s_z62:=sY [(90,s_z90)] 8 (some [4]) (fC qlR fN) Tryz.func62 fun avs r h=>by
 unfold s_z62 at h;split at h <;> cases h
 exact eX (qom _ _)
def qpt:EnvP:=eQ [] 21 (some [1000004]) (fun x=>if x=1 then some [0,1] else none) (fun x=>if x=0 then some [0] else if x=1 then some [0,1] else none) nP
def qpu:Code:=cO Tryz.f120
def qrF:Array ResultVar:=Tryz.f120.results
def s_z120:Sp:=byE qpt qpu qrF
theorem qjU:gG 120 s_z120:=by
 refine qc G_stays (E:=qpt) (fn:=Tryz.f120) (c:=qpu) (qa rfl qt) (fun w S hg=>⟨⟨qh,fun f sp h=>qg f sp h w S⟩,qj w S hg,(fun _ _ h=>by cases h),(fun f sp h=>ql f sp h),(fun f it h=>qm f it h),(fun t kt vt h=>qi t kt vt h)⟩) follows Tryz.func120 (by kernel_rfl) (by kernel_rfl) (by kernel_rfl) fun _ _ h=>qe h
def qpv:EnvP:=eQ [] 24 (some [4]) (fun x=>if x=1 then some [0,1] else none) (fun x=>if x=0 then some [0] else if x=1 then some [0,1] else none) nP
def qpw:Code:=cO Tryz.f121
def qrG:Array ResultVar:=Tryz.f121.results
def s_z121:Sp:=byE qpv qpw qrG
theorem qjV:gG 121 s_z121:=by
 refine qc G_stays (E:=qpv) (fn:=Tryz.f121) (c:=qpw) (qa rfl qt) (fun w S hg=>⟨⟨qh,fun f sp h=>qg f sp h w S⟩,qj w S hg,(fun _ _ h=>by cases h),(fun f sp h=>ql f sp h),(fun f it h=>qm f it h),(fun t kt vt h=>qi t kt vt h)⟩) follows Tryz.func121 (by kernel_rfl) (by kernel_rfl) (by kernel_rfl) fun _ _ h=>qe h
def qpx:EnvP:=eQ [] 21 (some [2,3]) (fun x=>if x=2 then some [0,2,4] else none) (fun x=>if x=0 then some [2] else if x=1 then some [0,2,4] else none) nP
def qpy:Code:=cO Tryz.f122
def qrH:Array ResultVar:=Tryz.f122.results
def s_z122:Sp:=byE qpx qpy qrH
theorem qjW:gG 122 s_z122:=by
 refine qc G_stays (E:=qpx) (fn:=Tryz.f122) (c:=qpy) (qa rfl qt) (fun w S hg=>⟨⟨qh,fun f sp h=>qg f sp h w S⟩,qj w S hg,(fun _ _ h=>by cases h),(fun f sp h=>ql f sp h),(fun f it h=>qm f it h),(fun t kt vt h=>qi t kt vt h)⟩) follows Tryz.func122 (by kernel_rfl) (by kernel_rfl) (by kernel_rfl) fun _ _ h=>qe h
def qpz:EnvP:=eQ [] 10 (some [4]) nC nC nP
def qpA:Code:=cO Tryz.f151
def qrI:Array ResultVar:=Tryz.f151.results
def s_z151:Sp:=byE qpz qpA qrI
theorem qfS:gG 151 s_z151:=by
 refine qc G_stays (E:=qpz) (fn:=Tryz.f151) (c:=qpA) (qa rfl qt) (fun w S hg=>⟨⟨qh,fun f sp h=>qg f sp h w S⟩,qj w S hg,(fun _ _ h=>by cases h),(fun f sp h=>ql f sp h),(fun f it h=>qm f it h),(fun t kt vt h=>qi t kt vt h)⟩) follows Tryz.func151 (by kernel_rfl) (by kernel_rfl) (by kernel_rfl) fun _ _ h=>qe h
def qpB:EnvP:=eQ [(151,s_z151)] 20 (some [1000004]) (fun x=>if x=1 then some [0,1] else none) (fun x=>if x=0 then some [0] else if x=1 then some [0,1] else none) nP
def qpC:Code:=cO Tryz.f123
def qrJ:Array ResultVar:=Tryz.f123.results
def s_z123:Sp:=byE qpB qpC qrJ
theorem qjX:gG 123 s_z123:=by
 refine qc G_stays (E:=qpB) (fn:=Tryz.f123) (c:=qpC) (qa rfl qt) (fun w S hg=>⟨⟨(qd (qfS w S hg) qh),fun f sp h=>qg f sp h w S⟩,qj w S hg,(fun _ _ h=>by cases h),(fun f sp h=>ql f sp h),(fun f it h=>qm f it h),(fun t kt vt h=>qi t kt vt h)⟩) follows Tryz.func123 (by kernel_rfl) (by kernel_rfl) (by kernel_rfl) fun _ _ h=>qe h
def qpD:EnvP:=eQ [(151,s_z151)] 23 (some [4]) (fun x=>if x=1 then some [0,1] else none) (fun x=>if x=0 then some [0] else if x=1 then some [0,1] else none) nP
def qpE:Code:=cO Tryz.f124
def qrK:Array ResultVar:=Tryz.f124.results
def s_z124:Sp:=byE qpD qpE qrK
theorem qjY:gG 124 s_z124:=by
 refine qc G_stays (E:=qpD) (fn:=Tryz.f124) (c:=qpE) (qa rfl qt) (fun w S hg=>⟨⟨(qd (qfS w S hg) qh),fun f sp h=>qg f sp h w S⟩,qj w S hg,(fun _ _ h=>by cases h),(fun f sp h=>ql f sp h),(fun f it h=>qm f it h),(fun t kt vt h=>qi t kt vt h)⟩) follows Tryz.func124 (by kernel_rfl) (by kernel_rfl) (by kernel_rfl) fun _ _ h=>qe h
def E_z91:EnvP:=⟨⟨tiOf tis,fnsOf [(120,s_z120),(121,s_z121),(122,s_z122),(123,s_z123),(124,s_z124),(125,s_z125),(126,s_z126)],cnsOf [],[],42,(fun _=>none),(fun _=>none),some [1000004]⟩,fun _=>none,fun _=>none,(fun x=>if x=500009 then [5] else []),fun _=>none,fun _=>none,fun _=>none,fun _=>none⟩
def C_z91:Code:=cO Tryz.f91
def R_z91:Array ResultVar:=Tryz.f91.results
def s_z91:Sp:=byE E_z91 C_z91 R_z91
theorem qmg:gG 91 s_z91:=by
 refine qc G_stays (E:=E_z91) (fn:=Tryz.f91) (c:=C_z91) (qa rfl qt) (fun w S hg=>⟨⟨(qd (qjU w S hg) (qd (qjV w S hg) (qd (qjW w S hg) (qd (qjX w S hg) (qd (qjY w S hg) (qd (qjK w S hg) (qd (qjL w S hg) qh))))))),fun f sp h=>qg f sp h w S⟩,qj w S hg,(fun _ _ h=>by cases h),(fun f sp h=>ql f sp h),(fun f it h=>qm f it h),(fun t kt vt h=>qi t kt vt h)⟩) follows Tryz.func91 (by kernel_rfl) (by kernel_rfl) (by kernel_rfl) fun _ _ h=>qe h
def E_z63:EnvP:=eQ [(20,s_z20),(91,s_z91)] 6 (some [2]) nC nC nP
def C_z63:Code:=cO Tryz.f63
def R_z63:Array ResultVar:=Tryz.f63.results
def s_z63:Sp:=byE E_z63 C_z63 R_z63
theorem qmh:gG 63 s_z63:=by
 refine qc G_stays (E:=E_z63) (fn:=Tryz.f63) (c:=C_z63) (qa rfl qt) (fun w S hg=>⟨⟨(qd (qcp w S hg) (qd (qmg w S hg) qh)),fun f sp h=>qg f sp h w S⟩,qj w S hg,(fun _ _ h=>by cases h),(fun f sp h=>ql f sp h),(fun f it h=>qm f it h),(fun t kt vt h=>qi t kt vt h)⟩) follows Tryz.func63 (by kernel_rfl) (by kernel_rfl) (by kernel_rfl) fun _ _ h=>qe h
def E_z45:EnvP:=eQ [(62,s_z62),(63,s_z63)] 13 (some [2]) nC nC nP
def C_z45:Code:=cO Tryz.f45
def R_z45:Array ResultVar:=Tryz.f45.results
def s_z45:Sp:=byE E_z45 C_z45 R_z45
theorem qmi:gG 45 s_z45:=by
 refine qc G_stays (E:=E_z45) (fn:=Tryz.f45) (c:=C_z45) (qa rfl qt) (fun w S hg=>⟨⟨(qd (qhz w S hg) (qd (qmh w S hg) qh)),fun f sp h=>qg f sp h w S⟩,qj w S hg,(fun _ _ h=>by cases h),(fun f sp h=>ql f sp h),(fun f it h=>qm f it h),(fun t kt vt h=>qi t kt vt h)⟩) follows Tryz.func45 (by kernel_rfl) (by kernel_rfl) (by kernel_rfl) fun _ _ h=>qe h
end
end
end Go.Av
