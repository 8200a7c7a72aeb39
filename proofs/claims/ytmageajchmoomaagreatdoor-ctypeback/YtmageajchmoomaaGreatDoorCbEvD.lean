import Derived.Test.YtmageajchmoomaaGreatDoorCbEvC
import Derived.Test.YtmageajchmoomaaGreatDoorCbD
import Derived.Test.YtmageajchmoomaaGreatDoorAvE
import Derived.Test.YtmageajchmoomaaGreatDoorProg
import Derived.KernelRfl
namespace Go.Av
set_option linter.unusedSimpArgs false
set_option linter.unusedVariables false
section
noncomputable section
open Go.Proofs Go.Proofs.Tryz
set_option maxRecDepth 100000
set_option linter.unusedVariables false
def qpi:EnvP:=eQ [] 46 (some [2,3,4]) (fun x=>if x=6 then some [5,6,19,20,21] else none) (fun x=>if x=0 then some [] else if x=1 then some [5,6,19,20,21] else if x=2 then some [5,6,19,20,21] else none) nP
def qCP:Code:=cO f117
def qPc:Array ResultVar:=f117.results
noncomputable def qpj (K:KT):=fun s2 s3 s4=>K .ret (frOf [(2,(db s2 (some (2,5)))),(3,dc s3),(4,dc s4)])
def qJP (n:Nat):KT:=qn 0 (qpi.cutb 0) (kSeq (evCP qpi (evLP qpi n) (sub qCP [1,1,1,1,1])) (kFnP qpi qPc))
def qJQ (out5:LU) (taken6:Bool) (s19:LU) (s20:Int) (s21:Int):Fr:=frOf [(5,(db out5 (some (5,5)))),(6,dg taken6),(19,da s19),(20,dc s20),(21,dc s21)]
theorem qxA (K:KT) (n:Nat):(fun out5 taken6 s19 s20 s21=>evLP qpi n (sub qCP [1,1,1,1,0,1,0,0]) K (qJQ out5 taken6 s19 s20 s21))=qgQ (qpj K) (K (.exit 0) (frOf [])) n:=by
 induction n
 kernel_rfl;rename_i n ih;show _=qaB (qpj K) (K (.exit 0) (frOf [])) (qgQ (qpj K) (K (.exit 0) (frOf [])) n) n;rw[← ih];kernel_rfl
theorem qPd (n:Nat) (s0:LU) (o0:Lab):evFnP qpi n qCP qPc [db s0 o0]=qsf n s0:=by
 unfold qsf;rw[(Eq.trans (by kernel_rfl) (qxA (qJP n) n).symm:qgQ qrM (qhC n) n=_)];kernel_rfl
theorem qmM:gG 117 s_z117:=sQ (E:=qpi) (c:=qCP) rfl fN func117 fun avs r h=>by
 unfold s_z117 at h;split at h
 ·obtain⟨hp,rfl⟩:=yj h;exact eX (qFu _ hp) fun n=>qPd n _ _
 ·cases h
theorem qCQ:gG 86 s_z86:=sZ [(22,s_z22),(117,s_z117)] 26 (some [2]) nC (fun x=>if x=0 then some [] else none) nP (fC qdF (fC qmM fN)) func86 fun avs r h=>by
 unfold s_z86 at h;split at h
 ·obtain⟨hp,rfl⟩:=yj h;exact eX (qMf _ hp)
 ·cases h
def E_z58:EnvP:=eQ [(20,s_z20),(86,s_z86)] 36 (some [2]) (fun x=>if x=3 then some [0,3,4] else none) (fun x=>if x=0 then some [0,3] else if x=1 then some [0,3,4] else none) nP
def C_z58:Code:=cO f58
def R_z58:Array ResultVar:=f58.results
noncomputable def qxB (K:KT):=fun s0 l3=>K (.exit 0) (frOf [(0,da s0),(3,(.dat (.sl (.sl .byte)) l3 (some (3,22))))])
def qPe (n:Nat):KT:=qn 0 (E_z58.cutb 0) (kSeq (evCP E_z58 (evLP E_z58 n) (sub C_z58 [1,0,1,1,1,1])) (kFnP E_z58 R_z58))
def qPf (s0:LU) (l3:List LU) (at4:Int):Fr:=frOf [(0,da s0),(3,(.dat (.sl (.sl .byte)) l3 (some (3,22)))),(4,dc at4)]
theorem qCR (K:KT) (n:Nat):(fun s0 l3 at4=>evLP E_z58 n (sub C_z58 [1,0,1,1,1,0,0,0]) K (qPf s0 l3 at4))=qpO (qxB K) n:=by
 induction n
 kernel_rfl;rename_i n ih;show _=qlo (qxB K) (qpO (qxB K) n) n;rw[← ih];kernel_rfl
theorem qSy (n:Nat) (s0:LU) (o0:Lab):evFnP E_z58 n C_z58 R_z58 [db s0 o0]=qKD n s0:=by
 unfold qKD;rw[(Eq.trans (by kernel_rfl) (qCR (qPe n) n).symm:qpO (qiL n) n=_)];kernel_rfl
theorem qCS:gG 58 s_z58:=sQ (E:=E_z58) (c:=C_z58) rfl (fC qaO (fC qCQ fN)) func58 fun avs r h=>by
 unfold s_z58 at h;split at h
 ·obtain⟨hp,rfl⟩:=yj h;exact eX (qMj _ hp) fun n=>qSy n _ _
 ·cases h
theorem qCT:gG 87 s_z87:=sY [(33,s_z33),(36,s_z36),(117,s_z117)] 45 (some [1000004,5,6]) (fC qhr (fC qlc (fC qmM fN))) func87 fun avs r h=>by
 unfold s_z87 at h;split at h
 ·obtain⟨hp,rfl⟩:=yj h;exact eX (qMc _ _ hp)
 ·cases h
theorem qCU:gG 88 s_z88:=sY [(22,s_z22)] 8 (some [2]) (fC qdF fN) func88 fun avs r h=>by
 unfold s_z88 at h;split at h
 ·obtain⟨hp,rfl⟩:=yj h;exact eX (qMg _ hp)
 ·cases h
def E_z46:EnvP:=eQ [(35,s_z35)] 21 (some [4]) (fun x=>if x=3 then some [1,5,8,9,10] else none) (fun x=>if x=0 then some [5] else if x=1 then some [1,5,8,9,10] else none) nP
def C_z46:Code:=cO f46
def R_z46:Array ResultVar:=f46.results
noncomputable def qxC (K:KT):=fun n5=>K (.exit 0) (frOf [(5,dc n5)])
def qPg (n:Nat):KT:=qn 0 (E_z46.cutb 0) (kSeq (evCP E_z46 (evLP E_z46 n) (sub C_z46 [1,1,1])) (kFnP E_z46 R_z46))
def qPh (kinds1:Int) (n5:Int) (s8:LU) (s9:Int) (s10:Int):Fr:=frOf [(1,dc kinds1),(5,dc n5),(8,da s8),(9,dc s9),(10,dc s10)]
theorem qCV (K:KT) (n:Nat):(fun kinds1 n5 s8 s9 s10=>evLP E_z46 n (sub C_z46 [1,1,0,1,0,0]) K (qPh kinds1 n5 s8 s9 s10))=qnk (qxC K) n:=by
 induction n
 kernel_rfl;rename_i n ih;show _=qgf (qxC K) (qnk (qxC K) n) n;rw[← ih];kernel_rfl
theorem qSz (n:Nat) (s0:LU) (o0:Lab) (kinds1:Int) (o1:Lab):evFnP E_z46 n C_z46 R_z46 [db s0 o0,de kinds1 o1]=qEa n s0 kinds1:=by
 unfold qEa;rw[(Eq.trans (by kernel_rfl) (qCV (qPg n) n).symm:qnk (qpP n) n=_)];kernel_rfl
theorem qCW:gG 46 s_z46:=sQ (E:=E_z46) (c:=C_z46) rfl (fC qfd fN) func46 fun avs r h=>by
 unfold s_z46 at h;split at h
 ·obtain⟨hp,rfl⟩:=yj h;exact eX (qKQ _ _ hp) fun n=>qSz n _ _ _ _
 ·cases h
theorem qhs:gG 31 s_z31:=sY [(46,s_z46)] 11 (some [4]) (fC qCW fN) func31 fun avs r h=>by
 unfold s_z31 at h;split at h
 ·obtain⟨hp,rfl⟩:=yj h;exact eX (qKR _ _ hp)
 ·cases h
theorem qxD:gG 150 s_z150:=sY [(60,s_z60)] 21 (some [4]) (fC qrl fN) func150 fun avs r h=>by
 unfold s_z150 at h;split at h
 ·obtain⟨hp,rfl⟩:=yj h;exact eX (qEE _ _ hp)
 ·cases h
theorem qxE:gG 118 s_z118:=sY [(150,s_z150)] 18 (some [4,5]) (fC qxD fN) func118 fun avs r h=>by
 unfold s_z118 at h;split at h
 ·obtain⟨hp,rfl⟩:=yj h;exact eX (qEQ _ _ hp)
 ·cases h
def qpk:EnvP:=eQ [(31,s_z31)] 44 (some [2]) (fun x=>if x=5 then some [3,30,31,32] else none) (fun x=>if x=0 then some [3] else if x=1 then some [3,30,31,32] else none) nP
def qCX:Code:=cO f119
def qPi:Array ResultVar:=f119.results
noncomputable def qpl (K:KT):=fun n3=>K (.exit 0) (frOf [(3,dc n3)])
def qJR (n:Nat):KT:=qn 0 (qpk.cutb 0) (kSeq (evCP qpk (evLP qpk n) (sub qCX [1,1,1,1])) (kFnP qpk qPi))
def qJS (n3:Int) (s30:LU) (s31:Int) (s32:Int):Fr:=frOf [(3,dc n3),(30,da s30),(31,dc s31),(32,dc s32)]
theorem qxF (K:KT) (n:Nat):(fun n3 s30 s31 s32=>evLP qpk n (sub qCX [1,1,1,0,1,0,0]) K (qJS n3 s30 s31 s32))=qgR (qpl K) n:=by
 induction n
 kernel_rfl;rename_i n ih;show _=qbW (qpl K) (qgR (qpl K) n) n;rw[← ih];kernel_rfl
theorem qPj (n:Nat) (s0:LU) (o0:Lab):evFnP qpk n qCX qPi [db s0 o0]=qsg n s0:=by
 unfold qsg;rw[(Eq.trans (by kernel_rfl) (qxF (qJR n) n).symm:qgR (qfn n) n=_)];kernel_rfl
theorem qxG:gG 119 s_z119:=sQ (E:=qpk) (c:=qCX) rfl (fC qhs fN) func119 fun avs r h=>by
 unfold s_z119 at h;split at h
 ·obtain⟨hp,rfl⟩:=yj h;exact eX (qFv _ hp) fun n=>qPj n _ _
 ·cases h
theorem qCY:gG 89 s_z89:=sY [(31,s_z31),(37,s_z37),(109,s_z109),(118,s_z118),(119,s_z119)] 52 (some [1000002,3,4]) (fC qhs (fC qfe (fC qmD (fC qxE (fC qxG fN))))) func89 fun avs r h=>by
 unfold s_z89 at h;split at h
 ·obtain⟨hp,rfl⟩:=yj h;exact eX (qMh _ hp)
 ·cases h
theorem qCZ:gG 59 s_z59:=sY [(22,s_z22),(24,s_z24),(36,s_z36),(87,s_z87),(88,s_z88),(89,s_z89)] 61 (some [2,3]) (fC qdF (fC qlb (fC qlc (fC qCT (fC qCU (fC qCY fN)))))) func59 fun avs r h=>by
 unfold s_z59 at h;split at h
 ·obtain⟨hp,rfl⟩:=yj h;exact eX (qMk _ hp)
 ·cases h
def E_z39:EnvP:=eQ [(58,s_z58),(59,s_z59)] 28 (some [2]) (fun x=>if x=3 then some [3,9,10,11] else none) (fun x=>if x=0 then some [3] else if x=1 then some [3,9,10,11] else none) nP
def C_z39:Code:=cO f39
def R_z39:Array ResultVar:=f39.results
noncomputable def qxH (K:KT):=fun l3=>K (.exit 0) (frOf [(3,(.dat (.sl (.pair (.sl .byte) (.pair (.int .i64) (.pair .bool (.pair (.sl .byte) .unit))))) l3 (some (3,97))))])
def qPk (n:Nat):KT:=qn 0 (E_z39.cutb 0) (kSeq (evCP E_z39 (evLP E_z39 n) (sub C_z39 [1,1,1])) (kFnP E_z39 R_z39))
def qPl (l3:List (LU×(Int×(Bool×(LU×Unit))))) (s9:List LU) (s10:Int) (s11:Int):Fr:=frOf [(3,(.dat (.sl (.pair (.sl .byte) (.pair (.int .i64) (.pair .bool (.pair (.sl .byte) .unit))))) l3 (some (3,97)))),(9,(.dat (.sl (.sl .byte)) s9 (some (9,22)))),(10,dc s10),(11,dc s11)]
theorem qDa (K:KT) (n:Nat):(fun l3 s9 s10 s11=>evLP E_z39 n (sub C_z39 [1,1,0,1,0,0]) K (qPl l3 s9 s10 s11))=quk (qxH K) n:=by
 induction n
 kernel_rfl;rename_i n ih;show _=qgg (qxH K) (quk (qxH K) n) n;rw[← ih];kernel_rfl
theorem qSA (n:Nat) (s0:LU) (o0:Lab):evFnP E_z39 n C_z39 R_z39 [db s0 o0]=qEb n s0:=by
 unfold qEb;rw[(Eq.trans (by kernel_rfl) (qDa (qPk n) n).symm:quk (qlq n) n=_)];kernel_rfl
theorem qDb:gG 39 s_z39:=sQ (E:=E_z39) (c:=C_z39) rfl (fC qCS (fC qCZ fN)) func39 fun avs r h=>by
 unfold s_z39 at h;split at h
 ·obtain⟨hp,rfl⟩:=yj h;exact eX (qMl _ hp) fun n=>qSA n _ _
 ·cases h
theorem qDc:gG 25 s_z25:=sY [(38,s_z38),(39,s_z39)] 6 (some [2]) (fC qCO (fC qDb fN)) func25 fun avs r h=>by
 unfold s_z25 at h;split at h
 ·obtain⟨hp,rfl⟩:=yj h;exact eX (qMu _ hp)
 ·cases h
theorem qld:gG 12 s_z12:=sY [(22,s_z22),(23,s_z23),(24,s_z24),(25,s_z25)] 46 (some [2,3]) (fC qdF (fC qCp (fC qlb (fC qDc fN)))) func12 fun avs r h=>by
 unfold s_z12 at h;split at h
 ·obtain⟨hp,rfl⟩:=yj h;exact eX (qKs _ hp)
 ·cases h
def E_z41:EnvP:=eQ [(42,s_z42)] 8 (some [3,9]) nC nC nP
def C_z41:Code:=cO f41
def R_z41:Array ResultVar:=f41.results
def s_z41:Sp:=byM E_z41 C_z41 R_z41
theorem qDd:qjl G prog 41 s_z41:=by
 refine qen G_stays (E:=E_z41) (fn:=f41) (c:=C_z41) (qq rfl qcX) (fun w S hg=>⟨⟨(qv (qrm w S hg) qJ),fun f sp h=>qI f sp h w S⟩,qW w S hg,(fun _ _ h=>by cases h),(fun f sp h=>qaj f sp h),(fun f it h=>qak f it h),(fun t kt vt h=>qR t kt vt h)⟩) follows func41 (by kernel_rfl) (by kernel_rfl) (by kernel_rfl) fun _ _ h=>qvc h
def E_z40:EnvP:=⟨⟨tiOf tis,fnsOf [],cnsOf [],[],19,(fun x=>if x=2 then some [0,1,7,8,20] else none),(fun x=>if x=0 then some [20] else if x=1 then some [0,1,7,8,20] else none),some [4,20]⟩,fun _=>none,fun _=>none,fun _=>[],(fun x=>if x=41 then some s_z41 else none),fun _=>none,fun _=>none,fun _=>none⟩
def C_z40:Code:=cO f40
def R_z40:Array ResultVar:=f40.results
def s_z40:Sp:=byM E_z40 C_z40 R_z40
theorem qDe:qjl G prog 40 s_z40:=by
 refine qen G_stays (E:=E_z40) (fn:=f40) (c:=C_z40) (qq rfl qcX) (fun w S hg=>⟨⟨qJ,fun f sp h=>qI f sp h w S⟩,qW w S hg,(fun f sp h=>(qda (qDd w S hg) qgI) f sp h),(fun _ _ h=>by cases h),(fun _ _ h=>by cases h),(fun t kt vt h=>qR t kt vt h)⟩) follows func40 (by kernel_rfl) (by kernel_rfl) (by kernel_rfl) fun _ _ h=>qvc h
def E_z27:EnvP:=⟨⟨tiOf tis,fnsOf [(43,s_z43)],cnsOf [],[],18,(fun _=>none),(fun _=>none),some [1000004,5]⟩,(fun x=>if x=3 then some (.leaf (.sl .byte)) else none),fun _=>none,fun _=>[],(fun x=>if x=40 then some s_z40 else none),fun _=>none,fun _=>none,fun _=>none⟩
def C_z27:Code:=cO f27
def R_z27:Array ResultVar:=f27.results
def s_z27:Sp:=byE E_z27 C_z27 R_z27
theorem qrt:gG 27 s_z27:=by
 refine qam G_stays (E:=E_z27) (fn:=f27) (c:=C_z27) (qq rfl qcX) (fun w S hg=>⟨⟨(qv (qCc w S hg) qJ),fun f sp h=>qI f sp h w S⟩,qW w S hg,(fun f sp h=>(qda (qDe w S hg) qgI) f sp h),(fun f sp h=>qaj f sp h),(fun f it h=>qak f it h),(fun t kt vt h=>qR t kt vt h)⟩) follows func27 (by kernel_rfl) (by kernel_rfl) (by kernel_rfl) fun _ _ h=>qej h
def E_z28:EnvP:=eQ [] 37 (some [2,3]) (fun x=>if x=4 then some [4,5,8,9,10] else none) (fun x=>if x=0 then some [4,5] else if x=1 then some [4,5,8,9,10] else none) nP
def C_z28:Code:=cO f28
def R_z28:Array ResultVar:=f28.results
def s_z28:Sp:=byE E_z28 C_z28 R_z28
theorem qru:gG 28 s_z28:=by
 refine qam G_stays (E:=E_z28) (fn:=f28) (c:=C_z28) (qq rfl qcX) (fun w S hg=>⟨⟨qJ,fun f sp h=>qI f sp h w S⟩,qW w S hg,(fun _ _ h=>by cases h),(fun f sp h=>qaj f sp h),(fun f it h=>qak f it h),(fun t kt vt h=>qR t kt vt h)⟩) follows func28 (by kernel_rfl) (by kernel_rfl) (by kernel_rfl) fun _ _ h=>qej h
def E_z14:EnvP:=eQ [(27,s_z27),(28,s_z28)] 43 (some [1000002,3]) nC nC nP
def C_z14:Code:=cO f14
def R_z14:Array ResultVar:=f14.results
def s_z14:Sp:=byE E_z14 C_z14 R_z14
theorem qDf:gG 14 s_z14:=by
 refine qam G_stays (E:=E_z14) (fn:=f14) (c:=C_z14) (qq rfl qcX) (fun w S hg=>⟨⟨(qv (qrt w S hg) (qv (qru w S hg) qJ)),fun f sp h=>qI f sp h w S⟩,qW w S hg,(fun _ _ h=>by cases h),(fun f sp h=>qaj f sp h),(fun f it h=>qak f it h),(fun t kt vt h=>qR t kt vt h)⟩) follows func14 (by kernel_rfl) (by kernel_rfl) (by kernel_rfl) fun _ _ h=>qej h
def E_z15:EnvP:=eQ [(12,s_z12)] 18 (some [2]) nC nC nP
def C_z15:Code:=cO f15
def R_z15:Array ResultVar:=f15.results
def s_z15:Sp:=byE E_z15 C_z15 R_z15
theorem qDg:gG 15 s_z15:=by
 refine qam G_stays (E:=E_z15) (fn:=f15) (c:=C_z15) (qq rfl qcX) (fun w S hg=>⟨⟨(qv (qld w S hg) qJ),fun f sp h=>qI f sp h w S⟩,qW w S hg,(fun _ _ h=>by cases h),(fun f sp h=>qaj f sp h),(fun f it h=>qak f it h),(fun t kt vt h=>qR t kt vt h)⟩) follows func15 (by kernel_rfl) (by kernel_rfl) (by kernel_rfl) fun _ _ h=>qej h
def E_z16:EnvP:=eQ [(27,s_z27),(28,s_z28),(29,s_z29)] 32 (some [2]) nC nC nP
def C_z16:Code:=cO f16
def R_z16:Array ResultVar:=f16.results
def s_z16:Sp:=byE E_z16 C_z16 R_z16
theorem qDh:gG 16 s_z16:=by
 refine qam G_stays (E:=E_z16) (fn:=f16) (c:=C_z16) (qq rfl qcX) (fun w S hg=>⟨⟨(qv (qrt w S hg) (qv (qru w S hg) (qv (qrq w S hg) qJ))),fun f sp h=>qI f sp h w S⟩,qW w S hg,(fun _ _ h=>by cases h),(fun f sp h=>qaj f sp h),(fun f it h=>qak f it h),(fun t kt vt h=>qR t kt vt h)⟩) follows func16 (by kernel_rfl) (by kernel_rfl) (by kernel_rfl) fun _ _ h=>qej h
def E_z6:EnvP:=eQ [(9,s_z9),(12,s_z12),(14,s_z14),(15,s_z15),(16,s_z16)] 49 (some [0]) nC nC nP
def C_z6:Code:=cO f6
def R_z6:Array ResultVar:=f6.results
theorem z6_ev:evFnP E_z6 300 C_z6 R_z6 []=some (dg true):=by
 kernel_rfl
theorem qJT:gG 6 s_z6:=sQ (E:=E_z6) (c:=C_z6) rfl (fC qJm (fC qld (fC qDf (fC qDg (fC qDh fN))))) func6 fun avs r h=>by
 unfold s_z6 at h;split at h
 ·simp only[yb,true_and] at h;subst h;exact⟨300,_,z6_ev,.inl rfl⟩
 ·cases h
def E_z7:EnvP:=eQ [] 26 (some [4]) (fun x=>if x=4 then some [0,1,5] else none) (fun x=>if x=0 then some [] else if x=1 then some [0,1,5] else none) nP
def C_z7:Code:=cO f7
def R_z7:Array ResultVar:=f7.results
noncomputable def qJU (K:KT):=fun s4=>K .ret (frOf [(4,dg s4)])
def qSB (n:Nat):KT:=qn 0 (E_z7.cutb 0) (kSeq (evCP E_z7 (evLP E_z7 n) (sub C_z7 [1,1,1])) (kFnP E_z7 R_z7))
def qSC (a0:LU) (b1:LU) (i5:Int):Fr:=frOf [(0,da a0),(1,da b1),(5,dc i5)]
theorem qJV (K:KT) (n:Nat):(fun a0 b1 i5=>evLP E_z7 n (sub C_z7 [1,1,0,1,0,0]) K (qSC a0 b1 i5))=z7_l4 (qJU K) (K (.exit 0) (frOf [])) n:=by
 induction n
 kernel_rfl;rename_i n ih;show _=qjS (qJU K) (K (.exit 0) (frOf [])) (z7_l4 (qJU K) (K (.exit 0) (frOf [])) n) n;rw[← ih];kernel_rfl
theorem z7_ev (n:Nat) (a0:LU) (o0:Lab) (b1:LU) (o1:Lab):evFnP E_z7 n C_z7 R_z7 [db a0 o0,db b1 o1]=z7_sh n a0 b1:=by
 unfold z7_sh;rw[(Eq.trans (by kernel_rfl) (qJV (qSB n) n).symm:z7_l4 qga (qHv n) n=_)];kernel_rfl
theorem qxI:gG 7 s_z7:=sQ (E:=E_z7) (c:=C_z7) rfl fN func7 fun avs r h=>by
 unfold s_z7 at h;split at h
 ·obtain⟨hp,rfl⟩:=yj h;exact eX (qQS _ _ hp) fun n=>z7_ev n _ _ _ _
 ·cases h
theorem qDi:gG 17 s_z17:=sY [] 12 (some [2]) fN func17 fun avs r h=>by
 unfold s_z17 at h;split at h <;> cases h
 exact eX (qKS _)
def E_z8:EnvP:=eQ [(17,s_z17)] 20 (some [2]) (fun x=>if x=3 then some [0,3,4] else none) (fun x=>if x=0 then some [3] else if x=1 then some [0,3,4] else none) nP
def C_z8:Code:=cO f8
def R_z8:Array ResultVar:=f8.results
noncomputable def qJW (K:KT):=fun out3=>K (.exit 0) (frOf [(3,(db out3 (some (3,5))))])
def qSD (n:Nat):KT:=qn 0 (E_z8.cutb 0) (kSeq (evCP E_z8 (evLP E_z8 n) (sub C_z8 [1,1,1])) (kFnP E_z8 R_z8))
def qSE (s0:LU) (out3:LU) (i4:Int):Fr:=frOf [(0,da s0),(3,(db out3 (some (3,5)))),(4,dc i4)]
theorem qJX (K:KT) (n:Nat):(fun s0 out3 i4=>evLP E_z8 n (sub C_z8 [1,1,0,1,0,0]) K (qSE s0 out3 i4))=z8_l3 (qJW K) n:=by
 induction n
 kernel_rfl;rename_i n ih;show _=qjT (qJW K) (z8_l3 (qJW K) n) n;rw[← ih];kernel_rfl
theorem z8_ev (n:Nat) (s0:LU) (o0:Lab):evFnP E_z8 n C_z8 R_z8 [db s0 o0]=z8_sh n s0:=by
 unfold z8_sh;rw[(Eq.trans (by kernel_rfl) (qJX (qSD n) n).symm:z8_l3 (qsi n) n=_)];kernel_rfl
theorem qJY:gG 8 s_z8:=sQ (E:=E_z8) (c:=C_z8) rfl (fC qDi fN) func8 fun avs r h=>by
 unfold s_z8 at h;split at h
 ·obtain⟨hp,rfl⟩:=yj h;exact eX (qQV _ hp) fun n=>z8_ev n _ _
 ·cases h
end
end
end Go.Av
