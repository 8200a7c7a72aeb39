import Derived.Test.YtmageajchmoomaaGreatDoorCbEvE
import Derived.Test.YtmageajchmoomaaGreatDoorCbD
import Derived.Test.YtmageajchmoomaaGreatDoorAvE
import Derived.Test.YtmageajchmoomaaGreatDoorProg
import Derived.KernelRfl
namespace Go.Av
set_option linter.unusedSimpArgs false
set_option linter.unusedVariables false
section
noncomputable section
open Go.Proofs
set_option maxRecDepth 100000
set_option linter.unusedVariables false
theorem qxT:gG 131 s_z131:=sY [(137,s_z137)] 11 (some [2]) (fC qmR fN) Tryz.func131 fun avs r h=>by
 unfold s_z131 at h;split at h <;> cases h
 exact eX (qFf _)
theorem qmS:gG 139 s_z139:=sZ [(93,s_z93),(159,s_z159)] 31 (some [2,3]) nC (fun x=>if x=0 then some [0] else none) nP (fC qrz (fC qmL fN)) Tryz.func139 fun avs r h=>by
 unfold s_z139 at h;split at h <;> cases h
 exact eX (qFg _)
theorem qmT:gG 132 s_z132:=sY [(139,s_z139)] 11 (some [2]) (fC qmS fN) Tryz.func132 fun avs r h=>by
 unfold s_z132 at h;split at h <;> cases h
 exact eX (qFh _)
theorem qrB:gG 98 s_z98:=sZ [(129,s_z129),(130,s_z130),(131,s_z131),(132,s_z132)] 30 (some [4]) nC (fun x=>if x=0 then some [] else none) nP (fC qiw (fC qmQ (fC qxT (fC qmT fN)))) Tryz.func98 fun avs r h=>by
 unfold s_z98 at h;split at h <;> cases h
 exact eX (qLo _ _)
def E_z70:EnvP:=eQ [(98,s_z98)] 19 (some [2]) (fun x=>if x=3 then some [0,3,5] else none) (fun x=>if x=0 then some [3] else if x=1 then some [0,3,5] else none) nP
def C_z70:Code:=cO Tryz.f70
def R_z70:Array ResultVar:=Tryz.f70.results
noncomputable def qxU (K:KT):=fun s3=>K (.exit 0) (frOf [(3,dc s3)])
def qPy (n:Nat):KT:=qn 0 (E_z70.cutb 0) (kSeq (evCP E_z70 (evLP E_z70 n) (sub C_z70 [1,1,1])) (kFnP E_z70 R_z70))
def qPz (c0:Int) (s3:Int) (s5:Int):Fr:=frOf [(0,(di c0 none)),(3,dc s3),(5,dc s5)]
theorem qDB (K:KT) (n:Nat):(fun c0 s3 s5=>evLP E_z70 n (sub C_z70 [1,1,0,1,0,0]) K (qPz c0 s3 s5))=qnr (qxU K) n:=by
 induction n
 kernel_rfl;rename_i n ih;show _=qgm (qxU K) (qnr (qxU K) n) n;rw[← ih];kernel_rfl
theorem qSK (n:Nat) (c0:Int) (o0:Lab):evFnP E_z70 n C_z70 R_z70 [di c0 o0]=qEg n c0:=by
 unfold qEg;rw[(Eq.trans (by kernel_rfl) (qDB (qPy n) n).symm:qnr (qiO n) n=_)];kernel_rfl
theorem qDC:gG 70 s_z70:=sQ (E:=E_z70) (c:=C_z70) rfl (fC qrB fN) Tryz.func70 fun avs r h=>by
 unfold s_z70 at h;split at h <;> cases h
 exact eX (qLu _) fun n=>qSK n _ _
theorem qDD:gG 99 s_z99:=sY [(134,s_z134)] 8 (some [2]) (fC qwy fN) Tryz.func99 fun avs r h=>by
 unfold s_z99 at h;split at h
 ·obtain⟨hp,rfl⟩:=yj h;exact eX (qLq _ hp)
 ·cases h
theorem qDE:gG 71 s_z71:=sY [(99,s_z99)] 8 (some [2]) (fC qDD fN) Tryz.func71 fun avs r h=>by
 unfold s_z71 at h;split at h
 ·obtain⟨hp,rfl⟩:=yj h;exact eX (qLr _ hp)
 ·cases h
def E_z49:EnvP:=eQ [(70,s_z70),(71,s_z71)] 22 (some [2,3]) (fun x=>if x=3 then some [4,7,8,9] else none) (fun x=>if x=0 then some [4] else if x=1 then some [4,7,8,9] else none) nP
def C_z49:Code:=cO Tryz.f49
def R_z49:Array ResultVar:=Tryz.f49.results
noncomputable def qxV (K:KT):=fun all4=>K (.exit 0) (frOf [(4,dc all4)])
def qPA (n:Nat):KT:=qn 0 (E_z49.cutb 0) (kSeq (evCP E_z49 (evLP E_z49 n) (sub C_z49 [1,1,1])) (kFnP E_z49 R_z49))
def qPB (all4:Int) (s7:LI) (s8:Int) (s9:Int):Fr:=frOf [(4,dc all4),(7,(.dat (.sl (.int .i32)) s7 none)),(8,dc s8),(9,dc s9)]
theorem qDF (K:KT) (n:Nat):(fun all4 s7 s8 s9=>evLP E_z49 n (sub C_z49 [1,1,0,1,0,0]) K (qPB all4 s7 s8 s9))=quq (qxV K) n:=by
 induction n
 kernel_rfl;rename_i n ih;show _=qgn (qxV K) (quq (qxV K) n) n;rw[← ih];kernel_rfl
theorem qSL (n:Nat) (t0:LI) (o0:Lab):evFnP E_z49 n C_z49 R_z49 [.dat (.sl (.int .i32)) t0 o0]=qEh n t0:=by
 unfold qEh;rw[(Eq.trans (by kernel_rfl) (qDF (qPA n) n).symm:quq (qiP n) n=_)];kernel_rfl
theorem qDG:gG 49 s_z49:=sQ (E:=E_z49) (c:=C_z49) rfl (fC qDC (fC qDE fN)) Tryz.func49 fun avs r h=>by
 unfold s_z49 at h;split at h
 ·obtain⟨hp,rfl⟩:=yj h;exact eX (qLv _ hp) fun n=>qSL n _ _
 ·cases h
theorem qmU:gG 100 s_z100:=sZ [] 13 (some [2]) nC (fun x=>if x=0 then some [] else none) nP fN Tryz.func100 fun avs r h=>by
 unfold s_z100 at h;split at h <;> cases h
 exact eX (qFj _)
def qpp:EnvP:=eQ [(98,s_z98)] 20 (some [4]) (fun x=>if x=2 then some [0,7,8,9] else none) (fun x=>if x=0 then some [] else if x=1 then some [0,7,8,9] else none) nP
def qDH:Code:=cO Tryz.f135
def qPC:Array ResultVar:=Tryz.f135.results
noncomputable def qpq (K:KT):=fun s4=>K .ret (frOf [(4,dc s4)])
def qKb (n:Nat):KT:=qn 0 (qpp.cutb 0) (kSeq (evCP qpp (evLP qpp n) (sub qDH [1,1])) (kFnP qpp qPC))
def qKc (charset0:Int) (s7:LI) (s8:Int) (s9:Int):Fr:=frOf [(0,dc charset0),(7,(.dat (.sl (.int .i32)) s7 none)),(8,dc s8),(9,dc s9)]
theorem qxW (K:KT) (n:Nat):(fun charset0 s7 s8 s9=>evLP qpp n (sub qDH [1,0,1,0,0]) K (qKc charset0 s7 s8 s9))=qjU (qpq K) (K (.exit 0) (frOf [])) n:=by
 induction n
 kernel_rfl;rename_i n ih;show _=qdS (qpq K) (K (.exit 0) (frOf [])) (qjU (qpq K) (K (.exit 0) (frOf [])) n) n;rw[← ih];kernel_rfl
theorem qPD (n:Nat) (charset0:Int) (o0:Lab) (t1:LI) (o1:Lab):evFnP qpp n qDH qPC [de charset0 o0,.dat (.sl (.int .i32)) t1 o1]=qsl n charset0 t1:=by
 unfold qsl;rw[(Eq.trans (by kernel_rfl) (qxW (qKb n) n).symm:qjU qyD (qls n) n=_)];kernel_rfl
theorem qxX:gG 135 s_z135:=sQ (E:=qpp) (c:=qDH) rfl (fC qrB fN) Tryz.func135 fun avs r h=>by
 unfold s_z135 at h;split at h
 ·obtain⟨hp,rfl⟩:=yj h;exact eX (qFb _ _ hp) fun n=>qPD n _ _ _ _
 ·cases h
theorem qxY:gG 101 s_z101:=sY [(100,s_z100),(135,s_z135)] 14 (some [4]) (fC qmU (fC qxX fN)) Tryz.func101 fun avs r h=>by
 unfold s_z101 at h;split at h
 ·obtain⟨hp,rfl⟩:=yj h;exact eX (qFk _ _ hp)
 ·cases h
theorem qxZ:gG 156 s_z156:=sZ [(129,s_z129)] 16 (some [2]) nC (fun x=>if x=0 then some [] else none) nP (fC qiw fN) Tryz.func156 fun avs r h=>by
 unfold s_z156 at h;split at h <;> cases h
 exact eX (qFc _)
theorem qya:gG 136 s_z136:=sZ [(20,s_z20),(156,s_z156),(157,s_z157)] 56 (some [4,5]) nC (fun x=>if x=0 then some [7] else if x=1 then some [1,7] else if x=2 then some [1,7] else if x=3 then some [1,7] else none) nP (fC qaO (fC qxZ (fC qmF fN))) Tryz.func136 fun avs r h=>by
 unfold s_z136 at h;split at h
 ·obtain⟨hp,rfl⟩:=yj h;exact eX (qFd _ _ hp)
 ·cases h
def qpr:EnvP:=eQ [(65,s_z65),(136,s_z136)] 28 (some [2,3]) (fun x=>if x=5 then some [4,12,13,14] else none) (fun x=>if x=0 then some [4] else if x=1 then some [4,12,13,14] else none) nP
def qDI:Code:=cO Tryz.f102
def qPE:Array ResultVar:=Tryz.f102.results
noncomputable def qps (K:KT):=fun out4=>K (.exit 0) (frOf [(4,(db out4 (some (4,5))))])
def qKd (n:Nat):KT:=qn 0 (qpr.cutb 0) (kSeq (evCP qpr (evLP qpr n) (sub qDI [1,1,1,1])) (kFnP qpr qPE))
def qKe (out4:LU) (s12:LI) (s13:Int) (s14:Int):Fr:=frOf [(4,(db out4 (some (4,5)))),(12,(.dat (.sl (.int .i32)) s12 none)),(13,dc s13),(14,dc s14)]
theorem qyb (K:KT) (n:Nat):(fun out4 s12 s13 s14=>evLP qpr n (sub qDI [1,1,1,0,1,0,0]) K (qKe out4 s12 s13 s14))=qjV (qps K) n:=by
 induction n
 kernel_rfl;rename_i n ih;show _=qdT (qps K) (qjV (qps K) n) n;rw[← ih];kernel_rfl
theorem qPF (n:Nat) (t0:LI) (o0:Lab):evFnP qpr n qDI qPE [.dat (.sl (.int .i32)) t0 o0]=qsm n t0:=by
 unfold qsm;rw[(Eq.trans (by kernel_rfl) (qyb (qKd n) n).symm:qjV (qhG n) n=_)];kernel_rfl
theorem qyc:gG 102 s_z102:=sQ (E:=qpr) (c:=qDI) rfl (fC qry (fC qya fN)) Tryz.func102 fun avs r h=>by
 unfold s_z102 at h;split at h
 ·obtain⟨hp,rfl⟩:=yj h;exact eX (qFn _ hp) fun n=>qPF n _ _
 ·cases h
def qpt:EnvP:=eQ [(137,s_z137)] 28 (some [2,3]) (fun x=>if x=3 then some [4,9,10,11] else none) (fun x=>if x=0 then some [4] else if x=1 then some [4,9,10,11] else none) nP
def qDJ:Code:=cO Tryz.f103
def qPG:Array ResultVar:=Tryz.f103.results
noncomputable def qpu (K:KT):=fun s2 s3=>K .ret (frOf [(2,(db s2 (some (2,5)))),(3,dc s3)])
noncomputable def qpv (K:KT):=fun s4=>K (.exit 0) (frOf [(4,(db s4 (some (4,5))))])
def qKf (n:Nat):KT:=qn 0 (qpt.cutb 0) (kSeq (evCP qpt (evLP qpt n) (sub qDJ [1,1,1])) (kFnP qpt qPG))
def qKg (s4:LU) (s9:LI) (s10:Int) (s11:Int):Fr:=frOf [(4,(db s4 (some (4,5)))),(9,(.dat (.sl (.int .i32)) s9 none)),(10,dc s10),(11,dc s11)]
theorem qyd (K:KT) (n:Nat):(fun s4 s9 s10 s11=>evLP qpt n (sub qDJ [1,1,0,1,0,0]) K (qKg s4 s9 s10 s11))=qjW (qpu K) (qpv K) n:=by
 induction n
 kernel_rfl;rename_i n ih;show _=qdU (qpu K) (qpv K) (qjW (qpu K) (qpv K) n) n;rw[← ih];kernel_rfl
theorem qPH (n:Nat) (t0:LI) (o0:Lab):evFnP qpt n qDJ qPG [.dat (.sl (.int .i32)) t0 o0]=qsn n t0:=by
 unfold qsn;rw[(Eq.trans (by kernel_rfl) (qyd (qKf n) n).symm:qjW qzm (qhH n) n=_)];kernel_rfl
theorem qye:gG 103 s_z103:=sQ (E:=qpt) (c:=qDJ) rfl (fC qmR fN) Tryz.func103 fun avs r h=>by
 unfold s_z103 at h;split at h
 ·obtain⟨hp,rfl⟩:=yj h;exact eX (qFl _ hp) fun n=>qPH n _ _
 ·cases h
def qpw:EnvP:=eQ [(132,s_z132)] 17 (some [2]) (fun x=>if x=2 then some [5,6,7] else none) (fun x=>if x=0 then some [] else if x=1 then some [5,6,7] else none) nP
def qDK:Code:=cO Tryz.f138
def qPI:Array ResultVar:=Tryz.f138.results
noncomputable def qpx (K:KT):=fun s2=>K .ret (frOf [(2,dc s2)])
def qKh (n:Nat):KT:=qn 0 (qpw.cutb 0) (kSeq (evCP qpw (evLP qpw n) (sub qDK [1,1])) (kFnP qpw qPI))
def qKi (s5:LI) (s6:Int) (s7:Int):Fr:=frOf [(5,(.dat (.sl (.int .i32)) s5 none)),(6,dc s6),(7,dc s7)]
theorem qyf (K:KT) (n:Nat):(fun s5 s6 s7=>evLP qpw n (sub qDK [1,0,1,0,0]) K (qKi s5 s6 s7))=qjX (qpx K) (K (.exit 0) (frOf [])) n:=by
 induction n
 kernel_rfl;rename_i n ih;show _=qdV (qpx K) (K (.exit 0) (frOf [])) (qjX (qpx K) (K (.exit 0) (frOf [])) n) n;rw[← ih];kernel_rfl
theorem qPJ (n:Nat) (t0:LI) (o0:Lab):evFnP qpw n qDK qPI [.dat (.sl (.int .i32)) t0 o0]=qso n t0:=by
 unfold qso;rw[(Eq.trans (by kernel_rfl) (qyf (qKh n) n).symm:qjX qyD (qlt n) n=_)];kernel_rfl
theorem qyg:gG 138 s_z138:=sQ (E:=qpw) (c:=qDK) rfl (fC qmT fN) Tryz.func138 fun avs r h=>by
 unfold s_z138 at h;split at h
 ·obtain⟨hp,rfl⟩:=yj h;exact eX (qFa _ hp) fun n=>qPJ n _ _
 ·cases h
def qpy:EnvP:=eQ [(138,s_z138),(139,s_z139)] 32 (some [2,3]) (fun x=>if x=5 then some [4,15,16,17] else none) (fun x=>if x=0 then some [4] else if x=1 then some [4,15,16,17] else none) nP
def qDL:Code:=cO Tryz.f104
def qPK:Array ResultVar:=Tryz.f104.results
noncomputable def qpz (K:KT):=fun s4=>K (.exit 0) (frOf [(4,(db s4 (some (4,5))))])
def qKj (n:Nat):KT:=qn 0 (qpy.cutb 0) (kSeq (evCP qpy (evLP qpy n) (sub qDL [1,1,1,1])) (kFnP qpy qPK))
def qKk (s4:LU) (s15:LI) (s16:Int) (s17:Int):Fr:=frOf [(4,(db s4 (some (4,5)))),(15,(.dat (.sl (.int .i32)) s15 none)),(16,dc s16),(17,dc s17)]
theorem qyh (K:KT) (n:Nat):(fun s4 s15 s16 s17=>evLP qpy n (sub qDL [1,1,1,0,1,0,0]) K (qKk s4 s15 s16 s17))=qjY (qpz K) n:=by
 induction n
 kernel_rfl;rename_i n ih;show _=qdW (qpz K) (qjY (qpz K) n) n;rw[← ih];kernel_rfl
theorem qPL (n:Nat) (t0:LI) (o0:Lab):evFnP qpy n qDL qPK [.dat (.sl (.int .i32)) t0 o0]=qsp n t0:=by
 unfold qsp;rw[(Eq.trans (by kernel_rfl) (qyh (qKj n) n).symm:qjY (qhI n) n=_)];kernel_rfl
theorem qyi:gG 104 s_z104:=sQ (E:=qpy) (c:=qDL) rfl (fC qyg (fC qmS fN)) Tryz.func104 fun avs r h=>by
 unfold s_z104 at h;split at h
 ·obtain⟨hp,rfl⟩:=yj h;exact eX (qFm _ hp) fun n=>qPL n _ _
 ·cases h
theorem qDM:gG 72 s_z72:=sZ [(68,s_z68),(100,s_z100),(101,s_z101),(102,s_z102),(103,s_z103),(104,s_z104)] 38 (some [1000004,5]) nC (fun x=>if x=0 then some [0,1] else if x=1 then some [1] else none) nP (fC qrA (fC qmU (fC qxY (fC qyc (fC qye (fC qyi fN)))))) Tryz.func72 fun avs r h=>by
 unfold s_z72 at h;split at h
 ·obtain⟨hp,rfl⟩:=yj h;exact eX (qLp _ _ hp)
 ·cases h
theorem qyj:gG 105 s_z105:=sY [(35,s_z35)] 5 (some [2]) (fC qfd fN) Tryz.func105 fun avs r h=>by
 unfold s_z105 at h;split at h <;> cases h
 exact eX (qFo _)
theorem qyk:gG 160 s_z160:=sY [] 6 (some [2]) fN Tryz.func160 fun avs r h=>by
 unfold s_z160 at h;split at h
 ·obtain⟨hp,rfl⟩:=yj h;exact eX (qEU _ hp)
 ·cases h
theorem qyl:gG 140 s_z140:=sY [(160,s_z160)] 11 (some [2]) (fC qyk fN) Tryz.func140 fun avs r h=>by
 unfold s_z140 at h;split at h <;> cases h
 exact eX (qEV _)
theorem qym:gG 106 s_z106:=sY [(20,s_z20),(140,s_z140)] 15 (some [6]) (fC qaO (fC qyl fN)) Tryz.func106 fun avs r h=>by
 unfold s_z106 at h;split at h
 ·obtain⟨hp,rfl⟩:=yj h;exact eX (qEW _ _ _ hp)
 ·cases h
def E_z73:EnvP:=eQ [(105,s_z105),(106,s_z106)] 24 (some [2]) (fun x=>if x=3 then some [3,6,7,8] else none) (fun x=>if x=0 then some [3] else if x=1 then some [3,6,7,8] else none) nP
def C_z73:Code:=cO Tryz.f73
def R_z73:Array ResultVar:=Tryz.f73.results
noncomputable def qyn (K:KT):=fun out3=>K (.exit 0) (frOf [(3,(db out3 (some (3,5))))])
def qPM (n:Nat):KT:=qn 0 (E_z73.cutb 0) (kSeq (evCP E_z73 (evLP E_z73 n) (sub C_z73 [1,1,1])) (kFnP E_z73 R_z73))
def qPN (out3:LU) (s6:LU) (s7:Int) (s8:Int):Fr:=frOf [(3,(db out3 (some (3,5)))),(6,da s6),(7,dc s7),(8,dc s8)]
theorem qDN (K:KT) (n:Nat):(fun out3 s6 s7 s8=>evLP E_z73 n (sub C_z73 [1,1,0,1,0,0]) K (qPN out3 s6 s7 s8))=qur (qyn K) n:=by
 induction n
 kernel_rfl;rename_i n ih;show _=qgr (qyn K) (qur (qyn K) n) n;rw[← ih];kernel_rfl
theorem qSM (n:Nat) (s0:LU) (o0:Lab):evFnP E_z73 n C_z73 R_z73 [db s0 o0]=qEi n s0:=by
 unfold qEi;rw[(Eq.trans (by kernel_rfl) (qDN (qPM n) n).symm:qur (qlu n) n=_)];kernel_rfl
theorem qDO:gG 73 s_z73:=sQ (E:=E_z73) (c:=C_z73) rfl (fC qyj (fC qym fN)) Tryz.func73 fun avs r h=>by
 unfold s_z73 at h;split at h
 ·obtain⟨hp,rfl⟩:=yj h;exact eX (qLB _ hp) fun n=>qSM n _ _
 ·cases h
def E_z50:EnvP:=eQ [(72,s_z72),(73,s_z73)] 31 (some [4]) (fun x=>if x=3 then some [0,1,5,10,11] else none) (fun x=>if x=0 then some [5] else if x=1 then some [0,1,5,10,11] else none) nP
def C_z50:Code:=cO Tryz.f50
def R_z50:Array ResultVar:=Tryz.f50.results
noncomputable def qyo (K:KT):=fun l5=>K (.exit 0) (frOf [(5,(.dat (.sl (.sl .byte)) l5 (some (5,22))))])
def qPO (n:Nat):KT:=qn 0 (E_z50.cutb 0) (kSeq (evCP E_z50 (evLP E_z50 n) (sub C_z50 [1,1,1])) (kFnP E_z50 R_z50))
def qPP (charset0:Int) (t1:LI) (l5:List LU) (s10:Int) (s11:Int):Fr:=frOf [(0,dc charset0),(1,(.dat (.sl (.int .i32)) t1 none)),(5,(.dat (.sl (.sl .byte)) l5 (some (5,22)))),(10,dc s10),(11,dc s11)]
theorem qDP (K:KT) (n:Nat):(fun charset0 t1 l5 s10 s11=>evLP E_z50 n (sub C_z50 [1,1,0,1,0,0]) K (qPP charset0 t1 l5 s10 s11))=qus (qyo K) n:=by
 induction n
 kernel_rfl;rename_i n ih;show _=qgs (qyo K) (qus (qyo K) n) n;rw[← ih];kernel_rfl
theorem qSN (n:Nat) (charset0:Int) (o0:Lab) (t1:LI) (o1:Lab):evFnP E_z50 n C_z50 R_z50 [de charset0 o0,.dat (.sl (.int .i32)) t1 o1]=qEj n charset0 t1:=by
 unfold qEj;rw[(Eq.trans (by kernel_rfl) (qDP (qPO n) n).symm:qus (qlv n) n=_)];kernel_rfl
theorem qDQ:gG 50 s_z50:=sQ (E:=E_z50) (c:=C_z50) rfl (fC qDM (fC qDO fN)) Tryz.func50 fun avs r h=>by
 unfold s_z50 at h;split at h
 ·obtain⟨hp,rfl⟩:=yj h;exact eX (qLO _ _ hp) fun n=>qSN n _ _ _ _
 ·cases h
end
end
end Go.Av
