import Derived.Test.YtmdadpepccbpcaaGreatDoorPoEvB
import Derived.Test.YtmdadpepccbpcaaGreatDoorPoD
import Derived.Test.YtmdadpepccbpcaaGreatDoorAvE
import Derived.Test.YtmdadpepccbpcaaGreatDoorProg
import Derived.KernelRfl
namespace Go.Av
set_option linter.unusedSimpArgs false
set_option linter.unusedVariables false
section
noncomputable section
open Go.Proofs Go.Proofs.Tryz
set_option maxRecDepth 100000
set_option linter.unusedVariables false
def E_z56:EnvP:=eQ [(115,s_z115)] 19 (some [2]) (fun x=>if x=3 then some [3,6,7,8] else none) (fun x=>if x=0 then some [3] else if x=1 then some [3,6,7,8] else none) nP
def C_z56:Code:=cO f56
def R_z56:Array ResultVar:=f56.results
noncomputable def qxJ (K:KT):=fun t3=>K (.exit 0) (frOf [(3,(.dat (.sl (.int .i32)) t3 (some (3,21))))])
def qOx (n:Nat):KT:=qk 0 (E_z56.cutb 0) (kSeq (evCP E_z56 (evLP E_z56 n) (sub C_z56 [1,1,1])) (kFnP E_z56 R_z56))
def qOy (t3:LI) (s6:LU) (s7:Int) (s8:Int):Fr:=frOf [(3,(.dat (.sl (.int .i32)) t3 (some (3,21)))),(6,da s6),(7,dc s7),(8,dc s8)]
theorem qDo (K:KT) (n:Nat):(fun t3 s6 s7 s8=>evLP E_z56 n (sub C_z56 [1,1,0,1,0,0]) K (qOy t3 s6 s7 s8))=quU (qxJ K) n:=by
 induction n
 kernel_rfl;rename_i n ih;show _=qgw (qxJ K) (quU (qxJ K) n) n;rw[← ih];kernel_rfl
theorem qSv (n:Nat) (s0:LU) (o0:Lab):evFnP E_z56 n C_z56 R_z56 [db s0 o0]=qFu n s0:=by
 unfold qFu;rw[(Eq.trans (by kernel_rfl) (qDo (qOx n) n).symm:quU (qlH n) n=_)];kernel_rfl
theorem qDp:gG 56 s_z56:=sQ (E:=E_z56) (c:=C_z56) rfl (fC qxI fN) func56 fun avs r h=>by
 unfold s_z56 at h;split at h
 ·obtain⟨hp,rfl⟩:=yj h;exact eX (qMg _ hp) fun n=>qSv n _ _
 ·cases h
def qOz:EnvP:=⟨⟨tiOf tis,fnsOf [],cnsOf [],[],4,(fun _=>none),(fun _=>none),some [0]⟩,fun _=>none,fun _=>none,(fun x=>if x=500002 then [1] else []),fun _=>none,fun _=>none,fun _=>none,fun _=>none⟩
def qSw:Code:=cO f177
def qSx:Array ResultVar:=f177.results
theorem qOA (n:Nat)  : evFnP qOz n qSw qSx []=qIg n  := by
 kernel_rfl
theorem qnz:gG 177 s_z177:=sG (E:=qOz) (fun w S hg=>⟨⟨qr,fun f sp h=>qq f sp h w S⟩,qt w S hg,(fun _ _ h=>by cases h),(fun f sp h=>qv f sp h),(fun f it h=>qw f it h),(fun t kt vt h=>qu t kt vt h)⟩) func177 fun avs r h=>by
 unfold s_z177 at h;split at h <;> cases h
 exact eX (qFZ ) fun n=>qOA n
theorem qxK:gG 116 s_z116:=sY [(177,s_z177)] 20 (some [2]) (fC qnz fN) func116 fun avs r h=>by
 unfold s_z116 at h;split at h <;> cases h
 exact eX (qGx _) fun n=>by kernel_rfl
def E_z57:EnvP:=eQ [(116,s_z116)] 22 (some [2]) (fun x=>if x=3 then some [3,9,10,11] else none) (fun x=>if x=0 then some [3] else if x=1 then some [3,9,10,11] else none) nP
def C_z57:Code:=cO f57
def R_z57:Array ResultVar:=f57.results
noncomputable def qxL (K:KT):=fun t3=>K (.exit 0) (frOf [(3,(.dat (.sl (.int .i32)) t3 (some (3,21))))])
def qOB (n:Nat):KT:=qk 0 (E_z57.cutb 0) (kSeq (evCP E_z57 (evLP E_z57 n) (sub C_z57 [1,1,1])) (kFnP E_z57 R_z57))
def qOC (t3:LI) (s9:LU) (s10:Int) (s11:Int):Fr:=frOf [(3,(.dat (.sl (.int .i32)) t3 (some (3,21)))),(9,da s9),(10,dc s10),(11,dc s11)]
theorem qDq (K:KT) (n:Nat):(fun t3 s9 s10 s11=>evLP E_z57 n (sub C_z57 [1,1,0,1,0,0]) K (qOC t3 s9 s10 s11))=quV (qxL K) n:=by
 induction n
 kernel_rfl;rename_i n ih;show _=qgx (qxL K) (quV (qxL K) n) n;rw[← ih];kernel_rfl
theorem qSy (n:Nat) (s0:LU) (o0:Lab):evFnP E_z57 n C_z57 R_z57 [db s0 o0]=qFv n s0:=by
 unfold qFv;rw[(Eq.trans (by kernel_rfl) (qDq (qOB n) n).symm:quV (qlI n) n=_)];kernel_rfl
theorem qDr:gG 57 s_z57:=sQ (E:=E_z57) (c:=C_z57) rfl (fC qxK fN) func57 fun avs r h=>by
 unfold s_z57 at h;split at h
 ·obtain⟨hp,rfl⟩:=yj h;exact eX (qMh _ hp) fun n=>qSy n _ _
 ·cases h
def qOD:EnvP:=eQ [] 11 (some [13]) nC nC (fun x=>if x=7 then some (.osl 21 (.int .i32)) else if x=10 then some (.osl 21 (.int .i32)) else none)
def qSz:Code:=cO f118
def qSA:Array ResultVar:=f118.results
theorem qOE (n:Nat) (c0:Int) (o0:Lab) (e1:Int) (o1:Lab) (x2:LI):evFnM qOD n qSz qSA [di c0 o0,de e1 o1,.pbox (.osl 21 (.int .i32)) x2 none]=qAl n c0 e1 x2:=by
 kernel_rfl
theorem qxM:qjN G prog 118 s_z118:=sM (E:=qOD) (fun w S hg=>⟨⟨qr,fun f sp h=>qq f sp h w S⟩,qt w S hg,(fun _ _ h=>by cases h),(fun f sp h=>qv f sp h),(fun f it h=>qw f it h),(fun t kt vt h=>qu t kt vt h)⟩) func118 fun avs r h=>by
 unfold s_z118 at h;split at h
 ·obtain⟨hp,rfl⟩:=yj h;obtain⟨n,hn⟩:=qGv _ _ _ hp;exact⟨n,(qOE n _ _ _ _ _).trans hn⟩
 ·cases h
theorem qxN:gG 185 s_z185:=sZ [] 10 (some [2]) nC (fun x=>if x=0 then some [] else none) nP fN func185 fun avs r h=>by
 unfold s_z185 at h;split at h <;> cases h
 exact eX (qFX _) fun n=>by kernel_rfl
theorem qnA:gG 218 s_z218:=sZ [] 19 (some [2]) nC (fun x=>if x=0 then some [] else none) nP fN func218 fun avs r h=>by
 unfold s_z218 at h;split at h <;> cases h
 exact eX (qGs _) fun n=>by kernel_rfl
theorem qnB:gG 237 s_z237:=sY [] 6 (some [2]) fN func237 fun avs r h=>by
 unfold s_z237 at h;split at h <;> cases h
 exact eX (qGy _) fun n=>by kernel_rfl
theorem qxO:gG 238 s_z238:=sZ [(237,s_z237)] 40 (some [4]) nC (fun x=>if x=0 then some [1] else none) nP (fC qnB fN) func238 fun avs r h=>by
 unfold s_z238 at h;split at h <;> cases h
 exact eX (qGt _ _) fun n=>by kernel_rfl
def qpJ:EnvP:=eQ [(218,s_z218),(237,s_z237),(238,s_z238)] 45 (some [2]) (fun x=>if x=2 then some [0,3] else none) (fun x=>if x=0 then some [0,3] else if x=1 then some [0,3] else none) nP
def qDs:Code:=cO f217
def qOF:Array ResultVar:=f217.results
def qxP (s0:LU) (n3:Int):Fr:=frOf [(0,da s0),(3,dc n3)]
noncomputable def qpK (K:KT):=fun s0 n3=>K (.exit 0) (qxP s0 n3)
noncomputable def qpL (K:KT):=fun s2=>K .ret (frOf [(2,dc s2)])
def qKv (n:Nat):KT:=qk 0 (qpJ.cutb 0) (kSeq (evCP qpJ (evLP qpJ n) (sub qDs [1,1,1])) (kFnP qpJ qOF))
theorem qxQ (K:KT) (n:Nat):(fun s0 n3=>evLP qpJ n (sub qDs [1,1,0,0,0]) K (qxP s0 n3))=qjl (qpL K) (qpK K) n:=by
 induction n
 kernel_rfl;rename_i n ih;show _=qcq (qpL K) (qpK K) (qjl (qpL K) (qpK K) n) n;rw[← ih];kernel_rfl
theorem qOG (n:Nat) (s0:LU) (o0:Lab):evFnP qpJ n qDs qOF [db s0 o0]=qsT n s0:=by
 unfold qsT;rw[(Eq.trans (by kernel_rfl) (qxQ (qKv n) n).symm:qjl qHP (qaR n) n=_)];kernel_rfl
theorem qxR:gG 217 s_z217:=sQ (E:=qpJ) (c:=qDs) rfl (fC qnA (fC qnB (fC qxO fN))) func217 fun avs r h=>by
 unfold s_z217 at h;split at h
 ·obtain⟨hp,rfl⟩:=yj h;exact eX (qGu _ hp) fun n=>qOG n _ _
 ·cases h
def qpM:EnvP:=eQ [(185,s_z185),(217,s_z217),(218,s_z218)] 63 (some [2,3,4]) (fun x=>if x=12 then some [5,6,48,49,50] else none) (fun x=>if x=0 then some [0,5] else if x=1 then some [5,6] else if x=2 then some [5,6,48,49,50] else none) nP
def qDt:Code:=cO f178
def qOH:Array ResultVar:=f178.results
noncomputable def qpN (K:KT):=fun n5 c6=>K (.exit 1) (frOf [(5,dc n5),(6,(di c6 none))])
def qKw (n:Nat):KT:=qk 1 (qpM.cutb 1) (kSeq (evCP qpM (evLP qpM n) (sub qDt [1,1,1,1,1,1])) (kFnP qpM qOH))
def qKx (n5:Int) (c6:Int) (s48:LU) (s49:Int) (s50:Int):Fr:=frOf [(5,dc n5),(6,(di c6 none)),(48,da s48),(49,dc s49),(50,dc s50)]
theorem quA (K:KT) (n:Nat):(fun n5 c6 s48 s49 s50=>evLP qpM n (sub qDt [1,1,1,1,1,0,1,0,0]) K (qKx n5 c6 s48 s49 s50))=qeN (qpN K) n:=by
 induction n
 kernel_rfl;rename_i n ih;show _=qcF (qpN K) (qeN (qpN K) n) n;rw[← ih];kernel_rfl
theorem qOI (n:Nat) (s0:LU) (o0:Lab):evFnP qpM n qDt qOH [db s0 o0]=qsU n s0:=by
 unfold qsU qfJ qfI qdD qcG qca;rw[(Eq.trans (by kernel_rfl) (quA (qKw n) n).symm:qeN (qfH n) n=_)];kernel_rfl
theorem qxS:gG 178 s_z178:=sQ (E:=qpM) (c:=qDt) rfl (fC qxN (fC qxR (fC qnA fN))) func178 fun avs r h=>by
 unfold s_z178 at h;split at h
 ·obtain⟨hp,rfl⟩:=yj h;exact eX (qGz _ hp) fun n=>qOI n _ _
 ·cases h
def qxT:EnvP:=⟨⟨tiOf tis,fnsOf [(178,s_z178)],cnsOf [],[],23,(fun x=>if x=0 then some [0,1,24] else none),(fun x=>if x=0 then some [24] else if x=1 then some [0,1,24] else none),some [24]⟩,fun _=>none,fun _=>none,fun _=>[],(fun x=>if x=118 then some s_z118 else none),fun _=>none,fun _=>none,fun _=>none⟩
def qOJ:Code:=cO f117
def qOK:Array ResultVar:=f117.results
noncomputable def qpO (K:KT):=fun s24=>K (.exit 0) (frOf [(24,(.pbox (.osl 21 (.int .i32)) s24 none))])
def qKy (s0:LU) (f1:LI):KT:=qk 0 (qxT.cutb 0) (kFnM qxT qOK [db s0 none,.fn 118 [.pbox (.osl 21 (.int .i32)) f1 none]])
def qKz (s0:LU) (s24:LI):Fr:=frOf [(0,da s0),(1,(.padr 24 [.clo 118 false])),(24,(.pbox (.osl 21 (.int .i32)) s24 none))]
theorem qnC (K:KT) (n:Nat):(fun s0 s24=>evLP qxT n (sub qOJ [0,0]) K (qKz s0 s24))=qcb (qpO K) n:=by
 induction n
 kernel_rfl;rename_i n ih;show _=qcU (qpO K) (qcb (qpO K) n) n;rw[← ih];kernel_rfl
theorem qxU (n:Nat) (s0:LU) (o0:Lab) (f1:LI):evFnM qxT n qOJ qOK [db s0 o0,.fn 118 [.pbox (.osl 21 (.int .i32)) f1 none]]=qjm n s0 f1:=by
 unfold qjm;rw[(Eq.trans (by kernel_rfl) (qnC (qKy s0 f1) n).symm:qcb (qcV n) n=_)];kernel_rfl
theorem qxV:qjN G prog 117 s_z117:=sM (E:=qxT) (fun w S hg=>⟨⟨(qc (qxS w S hg) qr),fun f sp h=>qq f sp h w S⟩,qt w S hg,(fun f sp h=>(qfY (qxM w S hg) qmr) f sp h),(fun _ _ h=>by cases h),(fun _ _ h=>by cases h),(fun t kt vt h=>qu t kt vt h)⟩) func117 fun avs r h=>by
 unfold s_z117 at h;split at h
 ·obtain⟨hp,rfl⟩:=yj h;obtain⟨n,hn⟩:=qrd _ _ hp;exact⟨n,(qxU n _ _ _).trans hn⟩
 ·cases h
def E_z58:EnvP:=⟨⟨tiOf tis,fnsOf [],cnsOf [],[],8,(fun _=>none),(fun _=>none),some [2]⟩,(fun x=>if x=3 then some (.osl 21 (.int .i32)) else none),fun _=>none,fun _=>[],(fun x=>if x=117 then some s_z117 else none),fun _=>none,fun _=>none,fun _=>none⟩
def C_z58:Code:=cO f58
def R_z58:Array ResultVar:=f58.results
theorem qSB (n:Nat) (s0:LU) (o0:Lab):evFnP E_z58 n C_z58 R_z58 [db s0 o0]=qLH n s0:=by
 kernel_rfl
theorem qDu:gG 58 s_z58:=sG (E:=E_z58) (fun w S hg=>⟨⟨qr,fun f sp h=>qq f sp h w S⟩,qt w S hg,(fun f sp h=>(qfY (qxV w S hg) qmr) f sp h),(fun f sp h=>qv f sp h),(fun f it h=>qw f it h),(fun t kt vt h=>qu t kt vt h)⟩) func58 fun avs r h=>by
 unfold s_z58 at h;split at h
 ·obtain⟨hp,rfl⟩:=yj h;exact eX (qMl _ hp) fun n=>qSB n _ _
 ·cases h
theorem qDv:gG 29 s_z29:=sZ [(55,s_z55),(56,s_z56),(57,s_z57),(58,s_z58),(59,s_z59)] 24 (some [1000004]) nC (fun x=>if x=0 then some [1] else none) nP (fC qDm (fC qDp (fC qDr (fC qDu (fC qsf fN))))) func29 fun avs r h=>by
 unfold s_z29 at h;split at h
 ·obtain⟨hp,rfl⟩:=yj h;exact eX (qMi _ _ hp) fun n=>by kernel_rfl
 ·cases h
theorem qhQ:gG 12 s_z12:=sZ [(27,s_z27),(28,s_z28),(29,s_z29)] 19 (some [6]) nC (fun x=>if x=0 then some [1,2] else none) nP (fC qDh (fC qDj (fC qDv fN))) func12 fun avs r h=>by
 unfold s_z12 at h;split at h
 ·obtain⟨hp,rfl⟩:=yj h;exact eX (qLy _ _ _ hp) fun n=>by kernel_rfl
 ·cases h
theorem qDw:gG 78 s_z78:=sY [] 5 (some [2]) fN func78 fun avs r h=>by
 unfold s_z78 at h;split at h <;> cases h
 exact eX (qLk _) fun n=>by kernel_rfl
def qxW:EnvP:=eQ [(143,s_z143),(192,s_z192),(193,s_z193)] 35 (some [4]) (fun x=>if x=6 then some [0,1,5] else none) (fun x=>if x=0 then some [4] else if x=1 then some [0,1,5] else none) nP
def qKA:Code:=cO f139
def qOL:Array ResultVar:=f139.results
noncomputable def qpP (K:KT):=fun s4=>K .ret (frOf [(4,dc s4)])
def qKB (s0:LU) (sep1:LU) (n5:Int):Fr:=frOf [(0,da s0),(1,da sep1),(5,dc n5)]
theorem qxX (K:KT) (n:Nat):(fun s0 sep1 n5=>evLP qxW n (sub qKA [1,1,1,1,0,0]) K (qKB s0 sep1 n5))=qkt (qpP K) n:=by
 induction n
 kernel_rfl;rename_i n ih;show _=qhU (qpP K) (qkt (qpP K) n) n;rw[← ih];kernel_rfl
theorem qOM (n:Nat) (s0:LU) (o0:Lab) (sep1:LU) (o1:Lab):evFnP qxW n qKA qOL [db s0 o0,db sep1 o1]=qsW n s0 sep1:=by
 unfold qsW;rw[(Eq.trans (by kernel_rfl) (qxX (qk 0 (qxW.cutb 0) (kFnP qxW qOL)) n).symm:qkt qHP n=_)];kernel_rfl
theorem qnD:gG 139 s_z139:=sQ (E:=qxW) (c:=qKA) rfl (fC qnn (fC qxb (fC qxa fN))) func139 fun avs r h=>by
 unfold s_z139 at h;split at h
 ·obtain⟨hp,rfl⟩:=yj h;exact eX (qHj _ _ hp) fun n=>qOM n _ _ _ _
 ·cases h
def qON:EnvP:=eQ [(139,s_z139)] 8 (some [3,9]) nC nC nP
def qSC:Code:=cO f140
def qSD:Array ResultVar:=f140.results
theorem qOO (n:Nat) (c0:UInt8) (o0:Lab) (x1:LU):evFnM qON n qSC qSD [dn c0 o0,.pbox (.leaf (.sl .byte)) x1 none]=qAo n c0 x1:=by
 kernel_rfl
theorem qxY:qjN G prog 140 s_z140:=sM (E:=qON) (fun w S hg=>⟨⟨(qc (qnD w S hg) qr),fun f sp h=>qq f sp h w S⟩,qt w S hg,(fun _ _ h=>by cases h),(fun f sp h=>qv f sp h),(fun f it h=>qw f it h),(fun t kt vt h=>qu t kt vt h)⟩) func140 fun avs r h=>by
 unfold s_z140 at h;split at h
 ·obtain⟨hp,rfl⟩:=yj h;obtain⟨n,hn⟩:=qFi _ _ hp;exact⟨n,(qOO n _ _ _).trans hn⟩
 ·cases h
def E_z79:EnvP:=⟨⟨tiOf tis,fnsOf [(139,s_z139)],cnsOf [],[],18,(fun _=>none),(fun _=>none),some [2]⟩,(fun x=>if x=1 then some (.leaf (.sl .byte)) else none),fun _=>none,fun _=>[],(fun x=>if x=140 then some s_z140 else none),fun _=>none,fun _=>none,fun _=>none⟩
def C_z79:Code:=cO f79
def R_z79:Array ResultVar:=f79.results
theorem qSE (n:Nat) (s0:LU) (o0:Lab):evFnP E_z79 n C_z79 R_z79 [db s0 o0]=qLI n s0:=by
 kernel_rfl
theorem qDx:gG 79 s_z79:=sG (E:=E_z79) (fun w S hg=>⟨⟨(qc (qnD w S hg) qr),fun f sp h=>qq f sp h w S⟩,qt w S hg,(fun f sp h=>(qfY (qxY w S hg) qmr) f sp h),(fun f sp h=>qv f sp h),(fun f it h=>qw f it h),(fun t kt vt h=>qu t kt vt h)⟩) func79 fun avs r h=>by
 unfold s_z79 at h;split at h
 ·obtain⟨hp,rfl⟩:=yj h;exact eX (qLm _ hp) fun n=>qSE n _ _
 ·cases h
theorem qlv:gG 82 s_z82:=sY [(143,s_z143)] 23 (some [4,1000005,6]) (fC qnn fN) func82 fun avs r h=>by
 unfold s_z82 at h;split at h
 ·obtain⟨hp,rfl⟩:=yj h;exact eX (qMn _ _ hp) fun n=>by kernel_rfl
 ·cases h
def qpQ:EnvP:=eQ [(82,s_z82),(153,s_z153)] 25 (some [2]) (fun x=>if x=2 then some [0,3] else none) (fun x=>if x=0 then some [3] else if x=1 then some [0,3] else none) nP
def qDy:Code:=cO f142
def qOP:Array ResultVar:=f142.results
noncomputable def qpR (K:KT):=fun out3=>K (.exit 0) (frOf [(3,(.dat (.sl (.sl .byte)) out3 (some (3,24))))])
def qKC (n:Nat):KT:=qk 0 (qpQ.cutb 0) (kSeq (evCP qpQ (evLP qpQ n) (sub qDy [1,1,1])) (kFnP qpQ qOP))
def qKD (s0:LU) (out3:List LU):Fr:=frOf [(0,da s0),(3,(.dat (.sl (.sl .byte)) out3 (some (3,24))))]
theorem qxZ (K:KT) (n:Nat):(fun s0 out3=>evLP qpQ n (sub qDy [1,1,0,0,0]) K (qKD s0 out3))=qhn (qpR K) n:=by
 induction n
 kernel_rfl;rename_i n ih;show _=qhV (qpR K) (qhn (qpR K) n) n;rw[← ih];kernel_rfl
theorem qOQ (n:Nat) (s0:LU) (o0:Lab):evFnP qpQ n qDy qOP [db s0 o0]=qsY n s0:=by
 unfold qsY;rw[(Eq.trans (by kernel_rfl) (qxZ (qKC n) n).symm:qhn (qsX n) n=_)];kernel_rfl
theorem qya:gG 142 s_z142:=sQ (E:=qpQ) (c:=qDy) rfl (fC qlv (fC qfB fN)) func142 fun avs r h=>by
 unfold s_z142 at h;split at h
 ·obtain⟨hp,rfl⟩:=yj h;exact eX (qFg _ hp) fun n=>qOQ n _ _
 ·cases h
end
end
end Go.Av
