import Derived.Test.YtmdadpepccbpcaaGreatDoorPoEvC
import Derived.Test.YtmdadpepccbpcaaGreatDoorPoD
import Derived.Test.YtmdadpepccbpcaaGreatDoorAvE
import Derived.Test.YtmdadpepccbpcaaGreatDoorProg
import Derived.KernelRfl
namespace Go.Av
set_option linter.unusedSimpArgs false
set_option linter.unusedVariables false
section
noncomputable section
open Go.Proofs Go.Proofs.Tryz
set_option maxRecDepth 100000
set_option linter.unusedVariables false
theorem qvg:gG 116 s_z116:=sY [(177,s_z177)] 20 (some [2]) (fC qlI fN) func116 fun avs r h=>by
 unfold s_z116 at h;split at h <;> cases h
 exact eX (qCG _) fun n=>by kernel_rfl
def E_z57:EnvP:=eQ [(116,s_z116)] 22 (some [2]) (fun x=>if x=3 then some [3,9,10,11] else none) (fun x=>if x=0 then some [3] else if x=1 then some [3,9,10,11] else none) nP
def C_z57:Code:=cO f57
def R_z57:Array ResultVar:=f57.results
noncomputable def qvh (K:KT):=fun t3=>K (.exit 0) (frOf [(3,(.dat (.sl (.int .i32)) t3 (some (3,21))))])
def qKx (n:Nat):KT:=qk 0 (E_z57.cutb 0) (kSeq (evCP E_z57 (evLP E_z57 n) (sub C_z57 [1,1,1])) (kFnP E_z57 R_z57))
def qKy (t3:LI) (s9:LU) (s10:Int) (s11:Int):Fr:=frOf [(3,(.dat (.sl (.int .i32)) t3 (some (3,21)))),(9,da s9),(10,dc s10),(11,dc s11)]
theorem qAq (K:KT) (n:Nat):(fun t3 s9 s10 s11=>evLP E_z57 n (sub C_z57 [1,1,0,1,0,0]) K (qKy t3 s9 s10 s11))=qso (qvh K) n:=by
 induction n
 kernel_rfl;rename_i n ih;show _=qfv (qvh K) (qso (qvh K) n) n;rw[← ih];kernel_rfl
theorem qNl (n:Nat) (s0:LU) (o0:Lab):evFnP E_z57 n C_z57 R_z57 [db s0 o0]=qBR n s0:=by
 unfold qBR;rw[(Eq.trans (by kernel_rfl) (qAq (qKx n) n).symm:qso (qkb n) n=_)];kernel_rfl
theorem qAr:gG 57 s_z57:=sQ (E:=E_z57) (c:=C_z57) rfl (fC qvg fN) func57 fun avs r h=>by
 unfold s_z57 at h;split at h
 ·obtain⟨hp,rfl⟩:=yj h;exact eX (qIq _ hp) fun n=>qNl n _ _
 ·cases h
def qKz:EnvP:=eQ [] 11 (some [13]) nC nC (fun x=>if x=7 then some (.osl 21 (.int .i32)) else if x=10 then some (.osl 21 (.int .i32)) else none)
def qNm:Code:=cO f118
def qNn:Array ResultVar:=f118.results
theorem qKA (n:Nat) (c0:Int) (o0:Lab) (e1:Int) (o1:Lab) (x2:LI):evFnM qKz n qNm qNn [di c0 o0,de e1 o1,.pbox (.osl 21 (.int .i32)) x2 none]=qxh n c0 e1 x2:=by
 kernel_rfl
theorem qvi:qil G prog 118 s_z118:=sM (E:=qKz) (fun w S hg=>⟨⟨qQ,fun f sp h=>qP f sp h w S⟩,qW w S hg,(fun _ _ h=>by cases h),(fun f sp h=>qah f sp h),(fun f it h=>qai f it h),(fun t kt vt h=>qX t kt vt h)⟩) func118 fun avs r h=>by
 unfold s_z118 at h;split at h
 ·obtain⟨hp,rfl⟩:=yj h;obtain⟨n,hn⟩:=qCE _ _ _ hp;exact⟨n,(qKA n _ _ _ _ _).trans hn⟩
 ·cases h
theorem qlJ:gG 185 s_z185:=sZ [] 10 (some [2]) nC (fun x=>if x=0 then some [] else none) nP fN func185 fun avs r h=>by
 unfold s_z185 at h;split at h <;> cases h
 exact eX (qCk _) fun n=>by kernel_rfl
theorem qlK:gG 218 s_z218:=sZ [] 19 (some [2]) nC (fun x=>if x=0 then some [] else none) nP fN func218 fun avs r h=>by
 unfold s_z218 at h;split at h <;> cases h
 exact eX (qCB _) fun n=>by kernel_rfl
theorem qlL:gG 237 s_z237:=sY [] 6 (some [2]) fN func237 fun avs r h=>by
 unfold s_z237 at h;split at h <;> cases h
 exact eX (qCH _) fun n=>by kernel_rfl
theorem qvj:gG 238 s_z238:=sZ [(237,s_z237)] 40 (some [4]) nC (fun x=>if x=0 then some [1] else none) nP (fC qlL fN) func238 fun avs r h=>by
 unfold s_z238 at h;split at h <;> cases h
 exact eX (qCC _ _) fun n=>by kernel_rfl
def qnN:EnvP:=eQ [(218,s_z218),(237,s_z237),(238,s_z238)] 45 (some [2]) (fun x=>if x=2 then some [0,3] else none) (fun x=>if x=0 then some [0,3] else if x=1 then some [0,3] else none) nP
def qAs:Code:=cO f217
def qKB:Array ResultVar:=f217.results
def qvk (s0:LU) (n3:Int):Fr:=frOf [(0,da s0),(3,dc n3)]
noncomputable def qnO (K:KT):=fun s0 n3=>K (.exit 0) (qvk s0 n3)
noncomputable def qnP (K:KT):=fun s2=>K .ret (frOf [(2,dc s2)])
def qHc (n:Nat):KT:=qk 0 (qnN.cutb 0) (kSeq (evCP qnN (evLP qnN n) (sub qAs [1,1,1])) (kFnP qnN qKB))
theorem qvl (K:KT) (n:Nat):(fun s0 n3=>evLP qnN n (sub qAs [1,1,0,0,0]) K (qvk s0 n3))=qhM (qnP K) (qnO K) n:=by
 induction n
 kernel_rfl;rename_i n ih;show _=qbM (qnP K) (qnO K) (qhM (qnP K) (qnO K) n) n;rw[← ih];kernel_rfl
theorem qKC (n:Nat) (s0:LU) (o0:Lab):evFnP qnN n qAs qKB [db s0 o0]=qqA n s0:=by
 unfold qqA;rw[(Eq.trans (by kernel_rfl) (qvl (qHc n) n).symm:qhM qEt (qaI n) n=_)];kernel_rfl
theorem qvm:gG 217 s_z217:=sQ (E:=qnN) (c:=qAs) rfl (fC qlK (fC qlL (fC qvj fN))) func217 fun avs r h=>by
 unfold s_z217 at h;split at h
 ·obtain⟨hp,rfl⟩:=yj h;exact eX (qCD _ hp) fun n=>qKC n _ _
 ·cases h
def qnQ:EnvP:=eQ [(185,s_z185),(217,s_z217),(218,s_z218)] 63 (some [2,3,4]) (fun x=>if x=12 then some [5,6,48,49,50] else none) (fun x=>if x=0 then some [0,5] else if x=1 then some [5,6] else if x=2 then some [5,6,48,49,50] else none) nP
def qAt:Code:=cO f178
def qKD:Array ResultVar:=f178.results
noncomputable def qnR (K:KT):=fun n5 c6=>K (.exit 1) (frOf [(5,dc n5),(6,(di c6 none))])
def qHd (n:Nat):KT:=qk 1 (qnQ.cutb 1) (kSeq (evCP qnQ (evLP qnQ n) (sub qAt [1,1,1,1,1,1])) (kFnP qnQ qKD))
def qHe (n5:Int) (c6:Int) (s48:LU) (s49:Int) (s50:Int):Fr:=frOf [(5,dc n5),(6,(di c6 none)),(48,da s48),(49,dc s49),(50,dc s50)]
theorem qrW (K:KT) (n:Nat):(fun n5 c6 s48 s49 s50=>evLP qnQ n (sub qAt [1,1,1,1,1,0,1,0,0]) K (qHe n5 c6 s48 s49 s50))=qec (qnR K) n:=by
 induction n
 kernel_rfl;rename_i n ih;show _=qbY (qnR K) (qec (qnR K) n) n;rw[← ih];kernel_rfl
theorem qKE (n:Nat) (s0:LU) (o0:Lab):evFnP qnQ n qAt qKD [db s0 o0]=qqB n s0:=by
 unfold qqB qeN qeM qcV qbZ qbA;rw[(Eq.trans (by kernel_rfl) (qrW (qHd n) n).symm:qec (qeL n) n=_)];kernel_rfl
theorem qvn:gG 178 s_z178:=sQ (E:=qnQ) (c:=qAt) rfl (fC qlJ (fC qvm (fC qlK fN))) func178 fun avs r h=>by
 unfold s_z178 at h;split at h
 ·obtain⟨hp,rfl⟩:=yj h;exact eX (qCI _ hp) fun n=>qKE n _ _
 ·cases h
def qvo:EnvP:=⟨⟨tiOf tis,fnsOf [(178,s_z178)],cnsOf [],[],23,(fun x=>if x=0 then some [0,1,24] else none),(fun x=>if x=0 then some [24] else if x=1 then some [0,1,24] else none),some [24]⟩,fun _=>none,fun _=>none,fun _=>[],(fun x=>if x=118 then some s_z118 else none),fun _=>none,fun _=>none,fun _=>none⟩
def qKF:Code:=cO f117
def qKG:Array ResultVar:=f117.results
noncomputable def qnS (K:KT):=fun s24=>K (.exit 0) (frOf [(24,(.pbox (.osl 21 (.int .i32)) s24 none))])
def qHf (s0:LU) (f1:LI):KT:=qk 0 (qvo.cutb 0) (kFnM qvo qKG [db s0 none,.fn 118 [.pbox (.osl 21 (.int .i32)) f1 none]])
def qHg (s0:LU) (s24:LI):Fr:=frOf [(0,da s0),(1,(.padr 24 [.clo 118 false])),(24,(.pbox (.osl 21 (.int .i32)) s24 none))]
theorem qlM (K:KT) (n:Nat):(fun s0 s24=>evLP qvo n (sub qKF [0,0]) K (qHg s0 s24))=qbB (qnS K) n:=by
 induction n
 kernel_rfl;rename_i n ih;show _=qcn (qnS K) (qbB (qnS K) n) n;rw[← ih];kernel_rfl
theorem qvp (n:Nat) (s0:LU) (o0:Lab) (f1:LI):evFnM qvo n qKF qKG [db s0 o0,.fn 118 [.pbox (.osl 21 (.int .i32)) f1 none]]=qhN n s0 f1:=by
 unfold qhN;rw[(Eq.trans (by kernel_rfl) (qlM (qHf s0 f1) n).symm:qbB (qco n) n=_)];kernel_rfl
theorem qvq:qil G prog 117 s_z117:=sM (E:=qvo) (fun w S hg=>⟨⟨(qq (qvn w S hg) qQ),fun f sp h=>qP f sp h w S⟩,qW w S hg,(fun f sp h=>(qeX (qvi w S hg) qkD) f sp h),(fun _ _ h=>by cases h),(fun _ _ h=>by cases h),(fun t kt vt h=>qX t kt vt h)⟩) func117 fun avs r h=>by
 unfold s_z117 at h;split at h
 ·obtain⟨hp,rfl⟩:=yj h;obtain⟨n,hn⟩:=qoT _ _ hp;exact⟨n,(qvp n _ _ _).trans hn⟩
 ·cases h
def E_z58:EnvP:=⟨⟨tiOf tis,fnsOf [],cnsOf [],[],8,(fun _=>none),(fun _=>none),some [2]⟩,(fun x=>if x=3 then some (.osl 21 (.int .i32)) else none),fun _=>none,fun _=>[],(fun x=>if x=117 then some s_z117 else none),fun _=>none,fun _=>none,fun _=>none⟩
def C_z58:Code:=cO f58
def R_z58:Array ResultVar:=f58.results
theorem qNo (n:Nat) (s0:LU) (o0:Lab):evFnP E_z58 n C_z58 R_z58 [db s0 o0]=qIb n s0:=by
 kernel_rfl
theorem qAu:gG 58 s_z58:=sG (E:=E_z58) (fun w S hg=>⟨⟨qQ,fun f sp h=>qP f sp h w S⟩,qW w S hg,(fun f sp h=>(qeX (qvq w S hg) qkD) f sp h),(fun f sp h=>qah f sp h),(fun f it h=>qai f it h),(fun t kt vt h=>qX t kt vt h)⟩) func58 fun avs r h=>by
 unfold s_z58 at h;split at h
 ·obtain⟨hp,rfl⟩:=yj h;exact eX (qIs _ hp) fun n=>qNo n _ _
 ·cases h
theorem qAv:gG 29 s_z29:=sZ [(55,s_z55),(56,s_z56),(57,s_z57),(58,s_z58),(59,s_z59)] 24 (some [1000004]) nC (fun x=>if x=0 then some [1] else none) nP (fC qAm (fC qAp (fC qAr (fC qAu (fC qqa fN))))) func29 fun avs r h=>by
 unfold s_z29 at h;split at h
 ·obtain⟨hp,rfl⟩:=yj h;exact eX (qIr _ _ hp) fun n=>by kernel_rfl
 ·cases h
theorem qjN:gG 12 s_z12:=sZ [(27,s_z27),(28,s_z28),(29,s_z29)] 19 (some [6]) nC (fun x=>if x=0 then some [1,2] else none) nP (fC qAh (fC qAj (fC qAv fN))) func12 fun avs r h=>by
 unfold s_z12 at h;split at h
 ·obtain⟨hp,rfl⟩:=yj h;exact eX (qHS _ _ _ hp) fun n=>by kernel_rfl
 ·cases h
theorem qAw:gG 78 s_z78:=sY [] 5 (some [2]) fN func78 fun avs r h=>by
 unfold s_z78 at h;split at h <;> cases h
 exact eX (qHE _) fun n=>by kernel_rfl
def qvr:EnvP:=eQ [(143,s_z143),(192,s_z192),(193,s_z193)] 35 (some [4]) (fun x=>if x=6 then some [0,1,5] else none) (fun x=>if x=0 then some [4] else if x=1 then some [0,1,5] else none) nP
def qHh:Code:=cO f139
def qKH:Array ResultVar:=f139.results
noncomputable def qnT (K:KT):=fun s4=>K .ret (frOf [(4,dc s4)])
def qHi (s0:LU) (sep1:LU) (n5:Int):Fr:=frOf [(0,da s0),(1,da sep1),(5,dc n5)]
theorem qvs (K:KT) (n:Nat):(fun s0 sep1 n5=>evLP qvr n (sub qHh [1,1,1,1,0,0]) K (qHi s0 sep1 n5))=qiL (qnT K) n:=by
 induction n
 kernel_rfl;rename_i n ih;show _=qgC (qnT K) (qiL (qnT K) n) n;rw[← ih];kernel_rfl
theorem qKI (n:Nat) (s0:LU) (o0:Lab) (sep1:LU) (o1:Lab):evFnP qvr n qHh qKH [db s0 o0,db sep1 o1]=qqD n s0 sep1:=by
 unfold qqD;rw[(Eq.trans (by kernel_rfl) (qvs (qk 0 (qvr.cutb 0) (kFnP qvr qKH)) n).symm:qiL qEt n=_)];kernel_rfl
theorem qlN:gG 139 s_z139:=sQ (E:=qvr) (c:=qHh) rfl (fC qly (fC quu (fC qut fN))) func139 fun avs r h=>by
 unfold s_z139 at h;split at h
 ·obtain⟨hp,rfl⟩:=yj h;exact eX (qDA _ _ hp) fun n=>qKI n _ _ _ _
 ·cases h
def qKJ:EnvP:=eQ [(139,s_z139)] 8 (some [3,9]) nC nC nP
def qNp:Code:=cO f140
def qNq:Array ResultVar:=f140.results
theorem qKK (n:Nat) (c0:UInt8) (o0:Lab) (x1:LU):evFnM qKJ n qNp qNq [dm c0 o0,.pbox (.leaf (.sl .byte)) x1 none]=qxk n c0 x1:=by
 kernel_rfl
theorem qvt:qil G prog 140 s_z140:=sM (E:=qKJ) (fun w S hg=>⟨⟨(qq (qlN w S hg) qQ),fun f sp h=>qP f sp h w S⟩,qW w S hg,(fun _ _ h=>by cases h),(fun f sp h=>qah f sp h),(fun f it h=>qai f it h),(fun t kt vt h=>qX t kt vt h)⟩) func140 fun avs r h=>by
 unfold s_z140 at h;split at h
 ·obtain⟨hp,rfl⟩:=yj h;obtain⟨n,hn⟩:=qBB _ _ hp;exact⟨n,(qKK n _ _ _).trans hn⟩
 ·cases h
end
end
end Go.Av
