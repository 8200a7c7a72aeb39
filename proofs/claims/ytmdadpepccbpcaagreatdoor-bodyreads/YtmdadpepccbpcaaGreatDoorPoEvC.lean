import Derived.Test.YtmdadpepccbpcaaGreatDoorPoEvB
import Derived.Test.YtmdadpepccbpcaaGreatDoorPoD
import Derived.Test.YtmdadpepccbpcaaGreatDoorAvE
import Derived.Test.YtmdadpepccbpcaaGreatDoorProg
import Derived.KernelRfl
namespace Go.Av
set_option linter.unusedSimpArgs false
set_option linter.unusedVariables false
section
noncomputable section
open Go.Proofs Go.Proofs.Tryz
set_option maxRecDepth 100000
set_option linter.unusedVariables false
def E_z56:EnvP:=eQ [(115,s_z115)] 19 (some [2]) (fun x=>if x=3 then some [3,6,7,8] else none) (fun x=>if x=0 then some [3] else if x=1 then some [3,6,7,8] else none) nP
def C_z56:Code:=cO f56
def R_z56:Array ResultVar:=f56.results
noncomputable def qxF (K:KT):=fun t3=>K (.exit 0) (frOf [(3,(.dat (.sl (.int .i32)) t3 (some (3,21))))])
def qOt (n:Nat):KT:=qk 0 (E_z56.cutb 0) (kSeq (evCP E_z56 (evLP E_z56 n) (sub C_z56 [1,1,1])) (kFnP E_z56 R_z56))
def qOu (t3:LI) (s6:LU) (s7:Int) (s8:Int):Fr:=frOf [(3,(.dat (.sl (.int .i32)) t3 (some (3,21)))),(6,da s6),(7,dc s7),(8,dc s8)]
theorem qDk (K:KT) (n:Nat):(fun t3 s6 s7 s8=>evLP E_z56 n (sub C_z56 [1,1,0,1,0,0]) K (qOu t3 s6 s7 s8))=quQ (qxF K) n:=by
 induction n
 kernel_rfl;rename_i n ih;show _=qgw (qxF K) (quQ (qxF K) n) n;rw[← ih];kernel_rfl
theorem qSr (n:Nat) (s0:LU) (o0:Lab):evFnP E_z56 n C_z56 R_z56 [db s0 o0]=qFq n s0:=by
 unfold qFq;rw[(Eq.trans (by kernel_rfl) (qDk (qOt n) n).symm:quQ (qlG n) n=_)];kernel_rfl
theorem qDl:gG 56 s_z56:=sQ (E:=E_z56) (c:=C_z56) rfl (fC qxE fN) func56 fun avs r h=>by
 unfold s_z56 at h;split at h
 ·obtain⟨hp,rfl⟩:=yj h;exact eX (qMc _ hp) fun n=>qSr n _ _
 ·cases h
def qOv:EnvP:=⟨⟨tiOf tis,fnsOf [],cnsOf [],[],4,(fun _=>none),(fun _=>none),some [0]⟩,fun _=>none,fun _=>none,(fun x=>if x=500002 then [1] else []),fun _=>none,fun _=>none,fun _=>none,fun _=>none⟩
def qSs:Code:=cO f177
def qSt:Array ResultVar:=f177.results
theorem qOw (n:Nat)  : evFnP qOv n qSs qSt []=qIc n  := by
 kernel_rfl
theorem qny:gG 177 s_z177:=sG (E:=qOv) (fun w S hg=>⟨⟨qr,fun f sp h=>qq f sp h w S⟩,qt w S hg,(fun _ _ h=>by cases h),(fun f sp h=>qv f sp h),(fun f it h=>qw f it h),(fun t kt vt h=>qu t kt vt h)⟩) func177 fun avs r h=>by
 unfold s_z177 at h;split at h <;> cases h
 exact eX (qFV ) fun n=>qOw n
theorem qxG:gG 116 s_z116:=sY [(177,s_z177)] 20 (some [2]) (fC qny fN) func116 fun avs r h=>by
 unfold s_z116 at h;split at h <;> cases h
 exact eX (qGt _)
def E_z57:EnvP:=eQ [(116,s_z116)] 22 (some [2]) (fun x=>if x=3 then some [3,9,10,11] else none) (fun x=>if x=0 then some [3] else if x=1 then some [3,9,10,11] else none) nP
def C_z57:Code:=cO f57
def R_z57:Array ResultVar:=f57.results
noncomputable def qxH (K:KT):=fun t3=>K (.exit 0) (frOf [(3,(.dat (.sl (.int .i32)) t3 (some (3,21))))])
def qOx (n:Nat):KT:=qk 0 (E_z57.cutb 0) (kSeq (evCP E_z57 (evLP E_z57 n) (sub C_z57 [1,1,1])) (kFnP E_z57 R_z57))
def qOy (t3:LI) (s9:LU) (s10:Int) (s11:Int):Fr:=frOf [(3,(.dat (.sl (.int .i32)) t3 (some (3,21)))),(9,da s9),(10,dc s10),(11,dc s11)]
theorem qDm (K:KT) (n:Nat):(fun t3 s9 s10 s11=>evLP E_z57 n (sub C_z57 [1,1,0,1,0,0]) K (qOy t3 s9 s10 s11))=quR (qxH K) n:=by
 induction n
 kernel_rfl;rename_i n ih;show _=qgx (qxH K) (quR (qxH K) n) n;rw[← ih];kernel_rfl
theorem qSu (n:Nat) (s0:LU) (o0:Lab):evFnP E_z57 n C_z57 R_z57 [db s0 o0]=qFr n s0:=by
 unfold qFr;rw[(Eq.trans (by kernel_rfl) (qDm (qOx n) n).symm:quR (qlH n) n=_)];kernel_rfl
theorem qDn:gG 57 s_z57:=sQ (E:=E_z57) (c:=C_z57) rfl (fC qxG fN) func57 fun avs r h=>by
 unfold s_z57 at h;split at h
 ·obtain⟨hp,rfl⟩:=yj h;exact eX (qMd _ hp) fun n=>qSu n _ _
 ·cases h
def qOz:EnvP:=eQ [] 11 (some [13]) nC nC (fun x=>if x=7 then some (.osl 21 (.int .i32)) else if x=10 then some (.osl 21 (.int .i32)) else none)
def qSv:Code:=cO f118
def qSw:Array ResultVar:=f118.results
theorem qOA (n:Nat) (c0:Int) (o0:Lab) (e1:Int) (o1:Lab) (x2:LI):evFnM qOz n qSv qSw [di c0 o0,de e1 o1,.pbox (.osl 21 (.int .i32)) x2 none]=qAh n c0 e1 x2:=by
 kernel_rfl
theorem qxI:qjM G prog 118 s_z118:=sM (E:=qOz) (fun w S hg=>⟨⟨qr,fun f sp h=>qq f sp h w S⟩,qt w S hg,(fun _ _ h=>by cases h),(fun f sp h=>qv f sp h),(fun f it h=>qw f it h),(fun t kt vt h=>qu t kt vt h)⟩) func118 fun avs r h=>by
 unfold s_z118 at h;split at h
 ·obtain⟨hp,rfl⟩:=yj h;obtain⟨n,hn⟩:=qGr _ _ _ hp;exact⟨n,(qOA n _ _ _ _ _).trans hn⟩
 ·cases h
theorem qxJ:gG 185 s_z185:=sZ [] 10 (some [2]) nC (fun x=>if x=0 then some [] else none) nP fN func185 fun avs r h=>by
 unfold s_z185 at h;split at h <;> cases h
 exact eX (qFT _)
theorem qnz:gG 218 s_z218:=sZ [] 19 (some [2]) nC (fun x=>if x=0 then some [] else none) nP fN func218 fun avs r h=>by
 unfold s_z218 at h;split at h <;> cases h
 exact eX (qGo _)
theorem qnA:gG 237 s_z237:=sY [] 6 (some [2]) fN func237 fun avs r h=>by
 unfold s_z237 at h;split at h <;> cases h
 exact eX (qGu _)
theorem qxK:gG 238 s_z238:=sZ [(237,s_z237)] 40 (some [4]) nC (fun x=>if x=0 then some [1] else none) nP (fC qnA fN) func238 fun avs r h=>by
 unfold s_z238 at h;split at h <;> cases h
 exact eX (qGp _ _)
def qpG:EnvP:=eQ [(218,s_z218),(237,s_z237),(238,s_z238)] 45 (some [2]) (fun x=>if x=2 then some [0,3] else none) (fun x=>if x=0 then some [0,3] else if x=1 then some [0,3] else none) nP
def qDo:Code:=cO f217
def qOB:Array ResultVar:=f217.results
def qxL (s0:LU) (n3:Int):Fr:=frOf [(0,da s0),(3,dc n3)]
noncomputable def qpH (K:KT):=fun s0 n3=>K (.exit 0) (qxL s0 n3)
noncomputable def qpI (K:KT):=fun s2=>K .ret (frOf [(2,dc s2)])
def qKr (n:Nat):KT:=qk 0 (qpG.cutb 0) (kSeq (evCP qpG (evLP qpG n) (sub qDo [1,1,1])) (kFnP qpG qOB))
theorem qxM (K:KT) (n:Nat):(fun s0 n3=>evLP qpG n (sub qDo [1,1,0,0,0]) K (qxL s0 n3))=qjk (qpI K) (qpH K) n:=by
 induction n
 kernel_rfl;rename_i n ih;show _=qcq (qpI K) (qpH K) (qjk (qpI K) (qpH K) n) n;rw[← ih];kernel_rfl
theorem qOC (n:Nat) (s0:LU) (o0:Lab):evFnP qpG n qDo qOB [db s0 o0]=qsP n s0:=by
 unfold qsP;rw[(Eq.trans (by kernel_rfl) (qxM (qKr n) n).symm:qjk qHL (qaQ n) n=_)];kernel_rfl
theorem qxN:gG 217 s_z217:=sQ (E:=qpG) (c:=qDo) rfl (fC qnz (fC qnA (fC qxK fN))) func217 fun avs r h=>by
 unfold s_z217 at h;split at h
 ·obtain⟨hp,rfl⟩:=yj h;exact eX (qGq _ hp) fun n=>qOC n _ _
 ·cases h
def qpJ:EnvP:=eQ [(185,s_z185),(217,s_z217),(218,s_z218)] 63 (some [2,3,4]) (fun x=>if x=12 then some [5,6,48,49,50] else none) (fun x=>if x=0 then some [0,5] else if x=1 then some [5,6] else if x=2 then some [5,6,48,49,50] else none) nP
def qDp:Code:=cO f178
def qOD:Array ResultVar:=f178.results
noncomputable def qpK (K:KT):=fun n5 c6=>K (.exit 1) (frOf [(5,dc n5),(6,(di c6 none))])
def qKs (n:Nat):KT:=qk 1 (qpJ.cutb 1) (kSeq (evCP qpJ (evLP qpJ n) (sub qDp [1,1,1,1,1,1])) (kFnP qpJ qOD))
def qKt (n5:Int) (c6:Int) (s48:LU) (s49:Int) (s50:Int):Fr:=frOf [(5,dc n5),(6,(di c6 none)),(48,da s48),(49,dc s49),(50,dc s50)]
theorem quw (K:KT) (n:Nat):(fun n5 c6 s48 s49 s50=>evLP qpJ n (sub qDp [1,1,1,1,1,0,1,0,0]) K (qKt n5 c6 s48 s49 s50))=qeL (qpK K) n:=by
 induction n
 kernel_rfl;rename_i n ih;show _=qcF (qpK K) (qeL (qpK K) n) n;rw[← ih];kernel_rfl
theorem qOE (n:Nat) (s0:LU) (o0:Lab):evFnP qpJ n qDp qOD [db s0 o0]=qsQ n s0:=by
 unfold qsQ qfI qfH qdD qcG qca;rw[(Eq.trans (by kernel_rfl) (quw (qKs n) n).symm:qeL (qfG n) n=_)];kernel_rfl
theorem qxO:gG 178 s_z178:=sQ (E:=qpJ) (c:=qDp) rfl (fC qxJ (fC qxN (fC qnz fN))) func178 fun avs r h=>by
 unfold s_z178 at h;split at h
 ·obtain⟨hp,rfl⟩:=yj h;exact eX (qGv _ hp) fun n=>qOE n _ _
 ·cases h
def qxP:EnvP:=⟨⟨tiOf tis,fnsOf [(178,s_z178)],cnsOf [],[],23,(fun x=>if x=0 then some [0,1,24] else none),(fun x=>if x=0 then some [24] else if x=1 then some [0,1,24] else none),some [24]⟩,fun _=>none,fun _=>none,fun _=>[],(fun x=>if x=118 then some s_z118 else none),fun _=>none,fun _=>none,fun _=>none⟩
def qOF:Code:=cO f117
def qOG:Array ResultVar:=f117.results
noncomputable def qpL (K:KT):=fun s24=>K (.exit 0) (frOf [(24,(.pbox (.osl 21 (.int .i32)) s24 none))])
def qKu (s0:LU) (f1:LI):KT:=qk 0 (qxP.cutb 0) (kFnM qxP qOG [db s0 none,.fn 118 [.pbox (.osl 21 (.int .i32)) f1 none]])
def qKv (s0:LU) (s24:LI):Fr:=frOf [(0,da s0),(1,(.padr 24 [.clo 118 false])),(24,(.pbox (.osl 21 (.int .i32)) s24 none))]
theorem qnB (K:KT) (n:Nat):(fun s0 s24=>evLP qxP n (sub qOF [0,0]) K (qKv s0 s24))=qcb (qpL K) n:=by
 induction n
 kernel_rfl;rename_i n ih;show _=qcU (qpL K) (qcb (qpL K) n) n;rw[← ih];kernel_rfl
theorem qxQ (n:Nat) (s0:LU) (o0:Lab) (f1:LI):evFnM qxP n qOF qOG [db s0 o0,.fn 118 [.pbox (.osl 21 (.int .i32)) f1 none]]=qjl n s0 f1:=by
 unfold qjl;rw[(Eq.trans (by kernel_rfl) (qnB (qKu s0 f1) n).symm:qcb (qcV n) n=_)];kernel_rfl
theorem qxR:qjM G prog 117 s_z117:=sM (E:=qxP) (fun w S hg=>⟨⟨(qc (qxO w S hg) qr),fun f sp h=>qq f sp h w S⟩,qt w S hg,(fun f sp h=>(qfY (qxI w S hg) qmq) f sp h),(fun _ _ h=>by cases h),(fun _ _ h=>by cases h),(fun t kt vt h=>qu t kt vt h)⟩) func117 fun avs r h=>by
 unfold s_z117 at h;split at h
 ·obtain⟨hp,rfl⟩:=yj h;obtain⟨n,hn⟩:=qra _ _ hp;exact⟨n,(qxQ n _ _ _).trans hn⟩
 ·cases h
def E_z58:EnvP:=⟨⟨tiOf tis,fnsOf [],cnsOf [],[],8,(fun _=>none),(fun _=>none),some [2]⟩,(fun x=>if x=3 then some (.osl 21 (.int .i32)) else none),fun _=>none,fun _=>[],(fun x=>if x=117 then some s_z117 else none),fun _=>none,fun _=>none,fun _=>none⟩
def C_z58:Code:=cO f58
def R_z58:Array ResultVar:=f58.results
theorem qSx (n:Nat) (s0:LU) (o0:Lab):evFnP E_z58 n C_z58 R_z58 [db s0 o0]=qLD n s0:=by
 kernel_rfl
theorem qDq:gG 58 s_z58:=sG (E:=E_z58) (fun w S hg=>⟨⟨qr,fun f sp h=>qq f sp h w S⟩,qt w S hg,(fun f sp h=>(qfY (qxR w S hg) qmq) f sp h),(fun f sp h=>qv f sp h),(fun f it h=>qw f it h),(fun t kt vt h=>qu t kt vt h)⟩) func58 fun avs r h=>by
 unfold s_z58 at h;split at h
 ·obtain⟨hp,rfl⟩:=yj h;exact eX (qMh _ hp) fun n=>qSx n _ _
 ·cases h
theorem qDr:gG 29 s_z29:=sZ [(55,s_z55),(56,s_z56),(57,s_z57),(58,s_z58),(59,s_z59)] 24 (some [1000004]) nC (fun x=>if x=0 then some [1] else none) nP (fC qDi (fC qDl (fC qDn (fC qDq (fC qsb fN))))) func29 fun avs r h=>by
 unfold s_z29 at h;split at h
 ·obtain⟨hp,rfl⟩:=yj h;exact eX (qMe _ _ hp)
 ·cases h
theorem qhQ:gG 12 s_z12:=sZ [(27,s_z27),(28,s_z28),(29,s_z29)] 19 (some [6]) nC (fun x=>if x=0 then some [1,2] else none) nP (fC qDd (fC qDf (fC qDr fN))) func12 fun avs r h=>by
 unfold s_z12 at h;split at h
 ·obtain⟨hp,rfl⟩:=yj h;exact eX (qLu _ _ _ hp)
 ·cases h
theorem qDs:gG 78 s_z78:=sY [] 5 (some [2]) fN func78 fun avs r h=>by
 unfold s_z78 at h;split at h <;> cases h
 exact eX (qLg _)
def qxS:EnvP:=eQ [(143,s_z143),(192,s_z192),(193,s_z193)] 35 (some [4]) (fun x=>if x=6 then some [0,1,5] else none) (fun x=>if x=0 then some [4] else if x=1 then some [0,1,5] else none) nP
def qKw:Code:=cO f139
def qOH:Array ResultVar:=f139.results
noncomputable def qpM (K:KT):=fun s4=>K .ret (frOf [(4,dc s4)])
def qKx (s0:LU) (sep1:LU) (n5:Int):Fr:=frOf [(0,da s0),(1,da sep1),(5,dc n5)]
theorem qxT (K:KT) (n:Nat):(fun s0 sep1 n5=>evLP qxS n (sub qKw [1,1,1,1,0,0]) K (qKx s0 sep1 n5))=qks (qpM K) n:=by
 induction n
 kernel_rfl;rename_i n ih;show _=qhU (qpM K) (qks (qpM K) n) n;rw[← ih];kernel_rfl
theorem qOI (n:Nat) (s0:LU) (o0:Lab) (sep1:LU) (o1:Lab):evFnP qxS n qKw qOH [db s0 o0,db sep1 o1]=qsS n s0 sep1:=by
 unfold qsS;rw[(Eq.trans (by kernel_rfl) (qxT (qk 0 (qxS.cutb 0) (kFnP qxS qOH)) n).symm:qks qHL n=_)];kernel_rfl
theorem qnC:gG 139 s_z139:=sQ (E:=qxS) (c:=qKw) rfl (fC qnm (fC qwX (fC qwW fN))) func139 fun avs r h=>by
 unfold s_z139 at h;split at h
 ·obtain⟨hp,rfl⟩:=yj h;exact eX (qHf _ _ hp) fun n=>qOI n _ _ _ _
 ·cases h
def qOJ:EnvP:=eQ [(139,s_z139)] 8 (some [3,9]) nC nC nP
def qSy:Code:=cO f140
def qSz:Array ResultVar:=f140.results
theorem qOK (n:Nat) (c0:UInt8) (o0:Lab) (x1:LU):evFnM qOJ n qSy qSz [dn c0 o0,.pbox (.leaf (.sl .byte)) x1 none]=qAk n c0 x1:=by
 kernel_rfl
theorem qxU:qjM G prog 140 s_z140:=sM (E:=qOJ) (fun w S hg=>⟨⟨(qc (qnC w S hg) qr),fun f sp h=>qq f sp h w S⟩,qt w S hg,(fun _ _ h=>by cases h),(fun f sp h=>qv f sp h),(fun f it h=>qw f it h),(fun t kt vt h=>qu t kt vt h)⟩) func140 fun avs r h=>by
 unfold s_z140 at h;split at h
 ·obtain⟨hp,rfl⟩:=yj h;obtain⟨n,hn⟩:=qFe _ _ hp;exact⟨n,(qOK n _ _ _).trans hn⟩
 ·cases h
def E_z79:EnvP:=⟨⟨tiOf tis,fnsOf [(139,s_z139)],cnsOf [],[],18,(fun _=>none),(fun _=>none),some [2]⟩,(fun x=>if x=1 then some (.leaf (.sl .byte)) else none),fun _=>none,fun _=>[],(fun x=>if x=140 then some s_z140 else none),fun _=>none,fun _=>none,fun _=>none⟩
def C_z79:Code:=cO f79
def R_z79:Array ResultVar:=f79.results
theorem qSA (n:Nat) (s0:LU) (o0:Lab):evFnP E_z79 n C_z79 R_z79 [db s0 o0]=qLE n s0:=by
 kernel_rfl
theorem qDt:gG 79 s_z79:=sG (E:=E_z79) (fun w S hg=>⟨⟨(qc (qnC w S hg) qr),fun f sp h=>qq f sp h w S⟩,qt w S hg,(fun f sp h=>(qfY (qxU w S hg) qmq) f sp h),(fun f sp h=>qv f sp h),(fun f it h=>qw f it h),(fun t kt vt h=>qu t kt vt h)⟩) func79 fun avs r h=>by
 unfold s_z79 at h;split at h
 ·obtain⟨hp,rfl⟩:=yj h;exact eX (qLi _ hp) fun n=>qSA n _ _
 ·cases h
theorem qlu:gG 82 s_z82:=sY [(143,s_z143)] 23 (some [4,1000005,6]) (fC qnm fN) func82 fun avs r h=>by
 unfold s_z82 at h;split at h
 ·obtain⟨hp,rfl⟩:=yj h;exact eX (qMj _ _ hp)
 ·cases h
def qpN:EnvP:=eQ [(82,s_z82),(153,s_z153)] 25 (some [2]) (fun x=>if x=2 then some [0,3] else none) (fun x=>if x=0 then some [3] else if x=1 then some [0,3] else none) nP
def qDu:Code:=cO f142
def qOL:Array ResultVar:=f142.results
noncomputable def qpO (K:KT):=fun out3=>K (.exit 0) (frOf [(3,(.dat (.sl (.sl .byte)) out3 (some (3,24))))])
def qKy (n:Nat):KT:=qk 0 (qpN.cutb 0) (kSeq (evCP qpN (evLP qpN n) (sub qDu [1,1,1])) (kFnP qpN qOL))
def qKz (s0:LU) (out3:List LU):Fr:=frOf [(0,da s0),(3,(.dat (.sl (.sl .byte)) out3 (some (3,24))))]
theorem qxV (K:KT) (n:Nat):(fun s0 out3=>evLP qpN n (sub qDu [1,1,0,0,0]) K (qKz s0 out3))=qhn (qpO K) n:=by
 induction n
 kernel_rfl;rename_i n ih;show _=qhV (qpO K) (qhn (qpO K) n) n;rw[← ih];kernel_rfl
theorem qOM (n:Nat) (s0:LU) (o0:Lab):evFnP qpN n qDu qOL [db s0 o0]=qsU n s0:=by
 unfold qsU;rw[(Eq.trans (by kernel_rfl) (qxV (qKy n) n).symm:qhn (qsT n) n=_)];kernel_rfl
theorem qxW:gG 142 s_z142:=sQ (E:=qpN) (c:=qDu) rfl (fC qlu (fC qfA fN)) func142 fun avs r h=>by
 unfold s_z142 at h;split at h
 ·obtain⟨hp,rfl⟩:=yj h;exact eX (qFc _ hp) fun n=>qOM n _ _
 ·cases h
end
end
end Go.Av
