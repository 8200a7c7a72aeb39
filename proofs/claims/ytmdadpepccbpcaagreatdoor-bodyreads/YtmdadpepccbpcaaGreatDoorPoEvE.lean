import Derived.Test.YtmdadpepccbpcaaGreatDoorPoEvD
import Derived.Test.YtmdadpepccbpcaaGreatDoorPoD
import Derived.Test.YtmdadpepccbpcaaGreatDoorAvE
import Derived.Test.YtmdadpepccbpcaaGreatDoorProg
import Derived.KernelRfl
namespace Go.Av
set_option linter.unusedSimpArgs false
set_option linter.unusedVariables false
section
noncomputable section
open Go.Proofs
set_option maxRecDepth 100000
set_option linter.unusedVariables false
def qPx:EnvP:=eQ [(158,s_z158),(159,s_z159),(160,s_z160),(161,s_z161)] 30 (some [4]) nC (fun x=>if x=0 then some [] else none) nP
def qPy:Code:=cO Tryz.f105
def qSS:Array ResultVar:=Tryz.f105.results
def s_z105:Sp:=byE qPx qPy qSS
theorem qnF:gG 105 s_z105:=by
 refine qe G_stays (E:=qPx) (fn:=Tryz.f105) (c:=qPy) (qb rfl qT) (fun w S hg=>⟨⟨(qc (qnE w S hg) (qc (qyk w S hg) (qc (qyn w S hg) (qc (qyp w S hg) qr)))),fun f sp h=>qq f sp h w S⟩,qt w S hg,(fun _ _ h=>by cases h),(fun f sp h=>qv f sp h),(fun f it h=>qw f it h),(fun t kt vt h=>qu t kt vt h)⟩) follows Tryz.func105 (by kernel_rfl) (by kernel_rfl) (by kernel_rfl) fun _ _ h=>qz h
def qPz:EnvP:=eQ [(105,s_z105)] 20 (some [4]) (fun x=>if x=2 then some [0,7,8,9] else none) (fun x=>if x=0 then some [] else if x=1 then some [0,7,8,9] else none) nP
def qPA:Code:=cO Tryz.f124
def qST:Array ResultVar:=Tryz.f124.results
def s_z124:Sp:=byE qPz qPA qST
theorem qyq:gG 124 s_z124:=by
 refine qe G_stays (E:=qPz) (fn:=Tryz.f124) (c:=qPA) (qb rfl qT) (fun w S hg=>⟨⟨(qc (qnF w S hg) qr),fun f sp h=>qq f sp h w S⟩,qt w S hg,(fun _ _ h=>by cases h),(fun f sp h=>qv f sp h),(fun f it h=>qw f it h),(fun t kt vt h=>qu t kt vt h)⟩) follows Tryz.func124 (by kernel_rfl) (by kernel_rfl) (by kernel_rfl) fun _ _ h=>qz h
def E_z66:EnvP:=eQ [(65,s_z65),(124,s_z124)] 14 (some [4]) nC nC nP
def C_z66:Code:=cO Tryz.f66
def R_z66:Array ResultVar:=Tryz.f66.results
def s_z66:Sp:=byE E_z66 C_z66 R_z66
theorem qDE:gG 66 s_z66:=by
 refine qe G_stays (E:=E_z66) (fn:=Tryz.f66) (c:=C_z66) (qb rfl qT) (fun w S hg=>⟨⟨(qc (qsd w S hg) (qc (qyq w S hg) qr)),fun f sp h=>qq f sp h w S⟩,qt w S hg,(fun _ _ h=>by cases h),(fun f sp h=>qv f sp h),(fun f it h=>qw f it h),(fun t kt vt h=>qu t kt vt h)⟩) follows Tryz.func66 (by kernel_rfl) (by kernel_rfl) (by kernel_rfl) fun _ _ h=>qz h
def qPB:EnvP:=eQ [(158,s_z158)] 17 (some [2]) (fun x=>if x=2 then some [0,5,6] else none) (fun x=>if x=0 then some [] else if x=1 then some [0,5,6] else none) nP
def qPC:Code:=cO Tryz.f130
def qSU:Array ResultVar:=Tryz.f130.results
def s_z130:Sp:=byE qPB qPC qSU
theorem qyr:gG 130 s_z130:=by
 refine qe G_stays (E:=qPB) (fn:=Tryz.f130) (c:=qPC) (qb rfl qT) (fun w S hg=>⟨⟨(qc (qnE w S hg) qr),fun f sp h=>qq f sp h w S⟩,qt w S hg,(fun _ _ h=>by cases h),(fun f sp h=>qv f sp h),(fun f it h=>qw f it h),(fun t kt vt h=>qu t kt vt h)⟩) follows Tryz.func130 (by kernel_rfl) (by kernel_rfl) (by kernel_rfl) fun _ _ h=>qz h
def E_z70:EnvP:=eQ [(130,s_z130)] 27 (some [2,3]) (fun x=>if x=5 then some [4,13,14,15] else none) (fun x=>if x=0 then some [4] else if x=1 then some [4,13,14,15] else none) (fun x=>if x=12 then some (.psl 5 (.leaf .byte)) else none)
def C_z70:Code:=cO Tryz.f70
def R_z70:Array ResultVar:=Tryz.f70.results
def s_z70:Sp:=byE E_z70 C_z70 R_z70
theorem qDF:gG 70 s_z70:=by
 refine qe G_stays (E:=E_z70) (fn:=Tryz.f70) (c:=C_z70) (qb rfl qT) (fun w S hg=>⟨⟨(qc (qyr w S hg) qr),fun f sp h=>qq f sp h w S⟩,qt w S hg,(fun _ _ h=>by cases h),(fun f sp h=>qv f sp h),(fun f it h=>qw f it h),(fun t kt vt h=>qu t kt vt h)⟩) follows Tryz.func70 (by kernel_rfl) (by kernel_rfl) (by kernel_rfl) fun _ _ h=>qz h
def E_z31:EnvP:=eQ [(65,s_z65),(66,s_z66),(67,s_z67),(68,s_z68),(69,s_z69),(70,s_z70)] 38 (some [1000004,5]) nC (fun x=>if x=0 then some [0,1] else if x=1 then some [1] else none) nP
def C_z31:Code:=cO Tryz.f31
def R_z31:Array ResultVar:=Tryz.f31.results
def s_z31:Sp:=byE E_z31 C_z31 R_z31
theorem qDG:gG 31 s_z31:=by
 refine qe G_stays (E:=E_z31) (fn:=Tryz.f31) (c:=C_z31) (qb rfl qT) (fun w S hg=>⟨⟨(qc (qsd w S hg) (qc (qDE w S hg) (qc (qCT w S hg) (qc (qCU w S hg) (qc (qCV w S hg) (qc (qDF w S hg) qr)))))),fun f sp h=>qq f sp h w S⟩,qt w S hg,(fun _ _ h=>by cases h),(fun f sp h=>qv f sp h),(fun f it h=>qw f it h),(fun t kt vt h=>qu t kt vt h)⟩) follows Tryz.func31 (by kernel_rfl) (by kernel_rfl) (by kernel_rfl) fun _ _ h=>qz h
def E_z13:EnvP:=eQ [(30,s_z30),(31,s_z31),(60,s_z60),(61,s_z61),(63,s_z63)] 39 (some [1000006,7]) nC nC nP
def C_z13:Code:=cO Tryz.f13
def R_z13:Array ResultVar:=Tryz.f13.results
def s_z13:Sp:=byE E_z13 C_z13 R_z13
theorem qse:gG 13 s_z13:=by
 refine qe G_stays (E:=E_z13) (fn:=Tryz.f13) (c:=C_z13) (qb rfl qT) (fun w S hg=>⟨⟨(qc (qDD w S hg) (qc (qDG w S hg) (qc (qDy w S hg) (qc (qDA w S hg) (qc (qDC w S hg) qr))))),fun f sp h=>qq f sp h w S⟩,qt w S hg,(fun _ _ h=>by cases h),(fun f sp h=>qv f sp h),(fun f it h=>qw f it h),(fun t kt vt h=>qu t kt vt h)⟩) follows Tryz.func13 (by kernel_rfl) (by kernel_rfl) (by kernel_rfl) fun _ _ h=>qz h
def E_z49:EnvP:=eQ [(105,s_z105)] 19 (some [2]) (fun x=>if x=3 then some [0,3,5] else none) (fun x=>if x=0 then some [3] else if x=1 then some [0,3,5] else none) nP
def C_z49:Code:=cO Tryz.f49
def R_z49:Array ResultVar:=Tryz.f49.results
def s_z49:Sp:=byE E_z49 C_z49 R_z49
theorem qDH:gG 49 s_z49:=by
 refine qe G_stays (E:=E_z49) (fn:=Tryz.f49) (c:=C_z49) (qb rfl qT) (fun w S hg=>⟨⟨(qc (qnF w S hg) qr),fun f sp h=>qq f sp h w S⟩,qt w S hg,(fun _ _ h=>by cases h),(fun f sp h=>qv f sp h),(fun f it h=>qw f it h),(fun t kt vt h=>qu t kt vt h)⟩) follows Tryz.func49 (by kernel_rfl) (by kernel_rfl) (by kernel_rfl) fun _ _ h=>qz h
def qPD:EnvP:=eQ [(163,s_z163)] 8 (some [2]) nC nC nP
def qPE:Code:=cO Tryz.f106
def qSV:Array ResultVar:=Tryz.f106.results
def s_z106:Sp:=byE qPD qPE qSV
theorem qys:gG 106 s_z106:=by
 refine qe G_stays (E:=qPD) (fn:=Tryz.f106) (c:=qPE) (qb rfl qT) (fun w S hg=>⟨⟨(qc (qxa w S hg) qr),fun f sp h=>qq f sp h w S⟩,qt w S hg,(fun _ _ h=>by cases h),(fun f sp h=>qv f sp h),(fun f it h=>qw f it h),(fun t kt vt h=>qu t kt vt h)⟩) follows Tryz.func106 (by kernel_rfl) (by kernel_rfl) (by kernel_rfl) fun _ _ h=>qz h
def E_z50:EnvP:=eQ [(106,s_z106)] 8 (some [2]) nC nC nP
def C_z50:Code:=cO Tryz.f50
def R_z50:Array ResultVar:=Tryz.f50.results
def s_z50:Sp:=byE E_z50 C_z50 R_z50
theorem qDI:gG 50 s_z50:=by
 refine qe G_stays (E:=E_z50) (fn:=Tryz.f50) (c:=C_z50) (qb rfl qT) (fun w S hg=>⟨⟨(qc (qys w S hg) qr),fun f sp h=>qq f sp h w S⟩,qt w S hg,(fun _ _ h=>by cases h),(fun f sp h=>qv f sp h),(fun f it h=>qw f it h),(fun t kt vt h=>qu t kt vt h)⟩) follows Tryz.func50 (by kernel_rfl) (by kernel_rfl) (by kernel_rfl) fun _ _ h=>qz h
def E_z24:EnvP:=eQ [(49,s_z49),(50,s_z50)] 22 (some [2,3]) (fun x=>if x=3 then some [4,7,8,9] else none) (fun x=>if x=0 then some [4] else if x=1 then some [4,7,8,9] else none) nP
def C_z24:Code:=cO Tryz.f24
def R_z24:Array ResultVar:=Tryz.f24.results
def s_z24:Sp:=byE E_z24 C_z24 R_z24
theorem qDJ:gG 24 s_z24:=by
 refine qe G_stays (E:=E_z24) (fn:=Tryz.f24) (c:=C_z24) (qb rfl qT) (fun w S hg=>⟨⟨(qc (qDH w S hg) (qc (qDI w S hg) qr)),fun f sp h=>qq f sp h w S⟩,qt w S hg,(fun _ _ h=>by cases h),(fun f sp h=>qv f sp h),(fun f it h=>qw f it h),(fun t kt vt h=>qu t kt vt h)⟩) follows Tryz.func24 (by kernel_rfl) (by kernel_rfl) (by kernel_rfl) fun _ _ h=>qz h
def E_z25:EnvP:=eQ [] 26 (some [4]) (fun x=>if x=4 then some [0,1,12,13] else none) (fun x=>if x=0 then some [] else if x=1 then some [0,1,12,13] else none) nP
def C_z25:Code:=cO Tryz.f25
def R_z25:Array ResultVar:=Tryz.f25.results
def s_z25:Sp:=byE E_z25 C_z25 R_z25
theorem qDK:gG 25 s_z25:=by
 refine qe G_stays (E:=E_z25) (fn:=Tryz.f25) (c:=C_z25) (qb rfl qT) (fun w S hg=>⟨⟨qr,fun f sp h=>qq f sp h w S⟩,qt w S hg,(fun _ _ h=>by cases h),(fun f sp h=>qv f sp h),(fun f it h=>qw f it h),(fun t kt vt h=>qu t kt vt h)⟩) follows Tryz.func25 (by kernel_rfl) (by kernel_rfl) (by kernel_rfl) fun _ _ h=>qz h
def E_z8:EnvP:=eQ [(12,s_z12),(13,s_z13),(24,s_z24),(25,s_z25)] 53 (some [2,3,1000004,5]) (fun x=>if x=5 then some [0,6,8] else none) (fun x=>if x=0 then some [0,6] else if x=1 then some [0,6,8] else none) nP
def C_z8:Code:=cO Tryz.f8
def R_z8:Array ResultVar:=Tryz.f8.results
def s_z8:Sp:=byE E_z8 C_z8 R_z8
theorem qKD:gG 8 s_z8:=by
 refine qe G_stays (E:=E_z8) (fn:=Tryz.f8) (c:=C_z8) (qb rfl qT) (fun w S hg=>⟨⟨(qc (qhQ w S hg) (qc (qse w S hg) (qc (qDJ w S hg) (qc (qDK w S hg) qr)))),fun f sp h=>qq f sp h w S⟩,qt w S hg,(fun _ _ h=>by cases h),(fun f sp h=>qv f sp h),(fun f it h=>qw f it h),(fun t kt vt h=>qu t kt vt h)⟩) follows Tryz.func8 (by kernel_rfl) (by kernel_rfl) (by kernel_rfl) fun _ _ h=>qz h
def E_z11:EnvP:=eQ [] 26 (some [4]) (fun x=>if x=4 then some [0,1,5] else none) (fun x=>if x=0 then some [] else if x=1 then some [0,1,5] else none) nP
def C_z11:Code:=cO Tryz.f11
def R_z11:Array ResultVar:=Tryz.f11.results
noncomputable def qyt (K:KT):=fun s4=>K .ret (frOf [(4,dg s4)])
def qPF (n:Nat):KT:=qk 0 (E_z11.cutb 0) (kSeq (evCP E_z11 (evLP E_z11 n) (sub C_z11 [1,1,1])) (kFnP E_z11 R_z11))
def qPG (a0:LI) (b1:LI) (i5:Int):Fr:=frOf [(0,(.dat (.sl (.int .i32)) a0 none)),(1,(.dat (.sl (.int .i32)) b1 none)),(5,dc i5)]
theorem qDL (K:KT) (n:Nat):(fun a0 b1 i5=>evLP E_z11 n (sub C_z11 [1,1,0,1,0,0]) K (qPG a0 b1 i5))=qnW (qyt K) (K (.exit 0) (frOf [])) n:=by
 induction n
 kernel_rfl;rename_i n ih;show _=qgB (qyt K) (K (.exit 0) (frOf [])) (qnW (qyt K) (K (.exit 0) (frOf [])) n) n;rw[← ih];kernel_rfl
theorem qSW (n:Nat) (a0:LI) (o0:Lab) (b1:LI) (o1:Lab):evFnP E_z11 n C_z11 R_z11 [.dat (.sl (.int .i32)) a0 o0,.dat (.sl (.int .i32)) b1 o1]=qFt n a0 b1:=by
 unfold qFt;rw[(Eq.trans (by kernel_rfl) (qDL (qPF n) n).symm:qnW qzM (qAo n) n=_)];kernel_rfl
theorem qsf:gG 11 s_z11:=sQ (E:=E_z11) (c:=C_z11) rfl fN Tryz.func11 fun avs r h=>by
 unfold s_z11 at h;split at h
 ·obtain⟨hp,rfl⟩:=yj h;exact eX (qMi _ _ hp) fun n=>qSW n _ _ _ _
 ·cases h
def E_z7:EnvP:=eQ [(8,s_z8),(11,s_z11),(12,s_z12),(13,s_z13)] 60 (some [0]) nC nC nP
def C_z7:Code:=cO Tryz.f7
def R_z7:Array ResultVar:=Tryz.f7.results
theorem z7_ev:evFnP E_z7 300 C_z7 R_z7 []=some (dg true):=by
 kernel_rfl
theorem qKE:gG 7 s_z7:=sQ (E:=E_z7) (c:=C_z7) rfl (fC qKD (fC qsf (fC qhQ (fC qse fN)))) Tryz.func7 fun avs r h=>by
 unfold s_z7 at h;split at h
 ·simp only[yb,true_and] at h;subst h;exact⟨300,_,z7_ev,.inl rfl⟩
 ·cases h
theorem qyu:gG 200 s_z200:=sY [(109,s_z109)] 9 (some [4]) (fC qno fN) Tryz.func200 fun avs r h=>by
 unfold s_z200 at h;split at h
 ·obtain⟨hp,rfl⟩:=yj h;exact eX (qHb _ _ hp)
 ·cases h
theorem qyv:gG 146 s_z146:=sY [(200,s_z200)] 6 (some [2]) (fC qyu fN) Tryz.func146 fun avs r h=>by
 unfold s_z146 at h;split at h
 ·obtain⟨hp,rfl⟩:=yj h;exact eX (qHc _ hp)
 ·cases h
def E_z83:EnvP:=eQ [(144,s_z144),(145,s_z145),(146,s_z146)] 60 (some [2]) (fun x=>if x=2 then some [0,7,8,9] else none) (fun x=>if x=0 then some [0] else if x=1 then some [0,7,8,9] else if x=2 then some [0,3,7,8,9] else none) nP
def C_z83:Code:=cO Tryz.f83
def R_z83:Array ResultVar:=Tryz.f83.results
noncomputable def qyw (K:KT):=fun l0=>K (.exit 0) (frOf [(0,da l0)])
noncomputable def qyx (K:KT):=fun s2=>K .ret (frOf [(2,dg s2)])
def qPH (n:Nat):KT:=qk 0 (E_z83.cutb 0) (kSeq (evCP E_z83 (evLP E_z83 n) (sub C_z83 [1,1])) (kFnP E_z83 R_z83))
def qPI (l0:LU) (s7:LU) (s8:Int) (s9:Int):Fr:=frOf [(0,da l0),(7,da s7),(8,dc s8),(9,dc s9)]
theorem qDM (K:KT) (n:Nat):(fun l0 s7 s8 s9=>evLP E_z83 n (sub C_z83 [1,0,1,0,0]) K (qPI l0 s7 s8 s9))=quS (qyx K) (qyw K) n:=by
 induction n
 kernel_rfl;rename_i n ih;show _=qgC (qyx K) (qyw K) (quS (qyx K) (qyw K) n) n;rw[← ih];kernel_rfl
theorem qSX (n:Nat) (l0:LU) (o0:Lab):evFnP E_z83 n C_z83 R_z83 [db l0 o0]=qFu n l0:=by
 unfold qFu;rw[(Eq.trans (by kernel_rfl) (qDM (qPH n) n).symm:quS qzM (qjp n) n=_)];kernel_rfl
theorem qDN:gG 83 s_z83:=sQ (E:=E_z83) (c:=C_z83) rfl (fC qiQ (fC qnv (fC qyv fN))) Tryz.func83 fun avs r h=>by
 unfold s_z83 at h;split at h
 ·obtain⟨hp,rfl⟩:=yj h;exact eX (qMH _ hp) fun n=>qSX n _ _
 ·cases h
def E_z38:EnvP:=eQ [(82,s_z82),(83,s_z83)] 29 (some [2]) (fun x=>if x=1 then some [0] else none) (fun x=>if x=0 then some [] else if x=1 then some [0] else if x=2 then some [4] else none) nP
def C_z38:Code:=cO Tryz.f38
def R_z38:Array ResultVar:=Tryz.f38.results
noncomputable def qyy (K:KT):=fun s2=>K .ret (frOf [(2,dc s2)])
def qPJ (n:Nat):KT:=qk 0 (E_z38.cutb 0) (kSeq (evCP E_z38 (evLP E_z38 n) (sub C_z38 [1,1])) (kFnP E_z38 R_z38))
theorem qDO (K:KT) (n:Nat):(fun s0=>evLP E_z38 n (sub C_z38 [1,0,0,0]) K (frOf [(0,da s0)]))=qqF (qyy K) (K (.exit 0) (frOf [])) n:=by
 induction n
 kernel_rfl;rename_i n ih;show _=qlJ (qyy K) (K (.exit 0) (frOf [])) (qqF (qyy K) (K (.exit 0) (frOf [])) n) n;rw[← ih];kernel_rfl
theorem qSY (n:Nat) (s0:LU) (o0:Lab):evFnP E_z38 n C_z38 R_z38 [db s0 o0]=qFv n s0:=by
 unfold qFv;rw[(Eq.trans (by kernel_rfl) (qDO (qPJ n) n).symm:qqF qHL (qqG n) n=_)];kernel_rfl
theorem qDP:gG 38 s_z38:=sQ (E:=E_z38) (c:=C_z38) rfl (fC qlu (fC qDN fN)) Tryz.func38 fun avs r h=>by
 unfold s_z38 at h;split at h
 ·obtain⟨hp,rfl⟩:=yj h;exact eX (qMJ _ hp) fun n=>qSY n _ _
 ·cases h
def qpQ:EnvP:=eQ [(82,s_z82)] 35 (some [2,3]) (fun x=>if x=2 then some [0,4] else none) (fun x=>if x=0 then some [4] else if x=1 then some [0,4] else if x=2 then some [] else none) nP
def qDQ:Code:=cO Tryz.f147
def qPK:Array ResultVar:=Tryz.f147.results
noncomputable def qpR (K:KT):=fun s2 s3=>K .ret (frOf [(2,(db s2 (some (2,5)))),(3,dc s3)])
noncomputable def qpS (K:KT):=fun all4=>K (.exit 0) (frOf [(4,(db all4 (some (4,5))))])
def qKF (n:Nat):KT:=qk 0 (qpQ.cutb 0) (kSeq (evCP qpQ (evLP qpQ n) (sub qDQ [1,0,1,1,1])) (kFnP qpQ qPK))
def qKG (s0:LU) (all4:LU):Fr:=frOf [(0,da s0),(4,(db all4 (some (4,5))))]
theorem qyz (K:KT) (n:Nat):(fun s0 all4=>evLP qpQ n (sub qDQ [1,0,1,1,0,0,0]) K (qKG s0 all4))=qjq (qpR K) (qpS K) n:=by
 induction n
 kernel_rfl;rename_i n ih;show _=qhW (qpR K) (qpS K) (qjq (qpR K) (qpS K) n) n;rw[← ih];kernel_rfl
theorem qPL (n:Nat) (s0:LU) (o0:Lab):evFnP qpQ n qDQ qPK [db s0 o0]=qAr n s0:=by
 unfold qAr;rw[(Eq.trans (by kernel_rfl) (qyz (qKF n) n).symm:qjq qAa (qfK n) n=_)];kernel_rfl
theorem qyA:gG 147 s_z147:=sQ (E:=qpQ) (c:=qDQ) rfl (fC qlu fN) Tryz.func147 fun avs r h=>by
 unfold s_z147 at h;split at h
 ·obtain⟨hp,rfl⟩:=yj h;exact eX (qFh _ hp) fun n=>qPL n _ _
 ·cases h
theorem qyB:gG 231 s_z231:=sY [(215,s_z215)] 16 (some [4]) (fC qns fN) Tryz.func231 fun avs r h=>by
 unfold s_z231 at h;split at h
 ·obtain⟨hp,rfl⟩:=yj h;exact eX (qGT _ _ hp)
 ·cases h
def qpT:EnvP:=eQ [(231,s_z231)] 10 (some [2]) (fun x=>if x=2 then some [0,3] else none) (fun x=>if x=0 then some [0] else if x=1 then some [0,3] else none) nP
def qDR:Code:=cO Tryz.f201
def qPM:Array ResultVar:=Tryz.f201.results
noncomputable def qpU (K:KT):=fun s0=>K (.exit 0) (frOf [(0,da s0)])
def qKH (n:Nat):KT:=qk 0 (qpT.cutb 0) (kSeq (evCP qpT (evLP qpT n) (sub qDR [1,1])) (kFnP qpT qPM))
def qKI (s0:LU) (s3:Int):Fr:=frOf [(0,da s0),(3,dc s3)]
theorem qyC (K:KT) (n:Nat):(fun s0 s3=>evLP qpT n (sub qDR [1,0,1,0,0]) K (qKI s0 s3))=qnY (qpU K) n:=by
 induction n
 kernel_rfl;rename_i n ih;show _=qsX (qpU K) (qnY (qpU K) n) n;rw[← ih];kernel_rfl
theorem qPN (n:Nat) (s0:LU) (o0:Lab):evFnP qpT n qDR qPM [db s0 o0]=qsZ n s0:=by
 unfold qsZ;rw[(Eq.trans (by kernel_rfl) (qyC (qKH n) n).symm:qnY (qsY n) n=_)];kernel_rfl
theorem qyD:gG 201 s_z201:=sQ (E:=qpT) (c:=qDR) rfl (fC qyB fN) Tryz.func201 fun avs r h=>by
 unfold s_z201 at h;split at h
 ·obtain⟨hp,rfl⟩:=yj h;exact eX (qGU _ hp) fun n=>qPN n _ _
 ·cases h
def qpV:EnvP:=eQ [(175,s_z175),(201,s_z201)] 57 (some [2,3]) (fun x=>if x=4 then some [0,4,5,6,12,13,14] else none) (fun x=>if x=0 then some [0,4,5] else if x=1 then some [0,4,5,6,12,13,14] else if x=2 then some [4] else none) nP
def qDS:Code:=cO Tryz.f148
def qPO:Array ResultVar:=Tryz.f148.results
noncomputable def qpW (K:KT):=fun s0 out4 held5=>K (.exit 0) (frOf [(0,da s0),(4,(db out4 (some (4,5)))),(5,dc held5)])
noncomputable def qpX (K:KT):=fun s2 s3=>K .ret (frOf [(2,(db s2 (some (2,5)))),(3,dc s3)])
def qKJ (n:Nat):KT:=qk 0 (qpV.cutb 0) (kSeq (evCP qpV (evLP qpV n) (sub qDS [1,1,1,1])) (kFnP qpV qPO))
def qKK (s0:LU) (out4:LU) (held5:Int) (many6:Int) (s12:LU) (s13:Int) (s14:Int):Fr:=frOf [(0,da s0),(4,(db out4 (some (4,5)))),(5,dc held5),(6,dc many6),(12,da s12),(13,dc s13),(14,dc s14)]
theorem qyE (K:KT) (n:Nat):(fun s0 out4 held5 many6 s12 s13 s14=>evLP qpV n (sub qDS [1,1,1,0,1,0,0]) K (qKK s0 out4 held5 many6 s12 s13 s14))=qfL (qpX K) (qpW K) n:=by
 induction n
 kernel_rfl;rename_i n ih;show _=qdY (qpX K) (qpW K) (qfL (qpX K) (qpW K) n) n;rw[← ih];kernel_rfl
theorem qPP (n:Nat) (s0:LU) (o0:Lab):evFnP qpV n qDS qPO [db s0 o0]=qta n s0:=by
 unfold qta;rw[(Eq.trans (by kernel_rfl) (qyE (qKJ n) n).symm:qfL qAa (qcX n) n=_)];kernel_rfl
theorem qyF:gG 148 s_z148:=sQ (E:=qpV) (c:=qDS) rfl (fC qnw (fC qyD fN)) Tryz.func148 fun avs r h=>by
 unfold s_z148 at h;split at h
 ·obtain⟨hp,rfl⟩:=yj h;exact eX (qGS _ hp) fun n=>qPP n _ _
 ·cases h
theorem qDT:gG 84 s_z84:=sY [(147,s_z147),(148,s_z148)] 18 (some [1000002,3]) (fC qyA (fC qyF fN)) Tryz.func84 fun avs r h=>by
 unfold s_z84 at h;split at h
 ·obtain⟨hp,rfl⟩:=yj h;exact eX (qLn _ hp)
 ·cases h
end
end
end Go.Av
