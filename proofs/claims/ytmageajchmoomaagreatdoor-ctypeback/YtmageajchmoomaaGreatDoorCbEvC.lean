import Derived.Test.YtmageajchmoomaaGreatDoorCbEvB
import Derived.Test.YtmageajchmoomaaGreatDoorCbD
import Derived.Test.YtmageajchmoomaaGreatDoorAvE
import Derived.Test.YtmageajchmoomaaGreatDoorProg
import Derived.KernelRfl
namespace Go.Av
set_option linter.unusedSimpArgs false
set_option linter.unusedVariables false
section
noncomputable section
open Go.Proofs Go.Proofs.Tryz
set_option maxRecDepth 100000
set_option linter.unusedVariables false
theorem qmF:gG 157 s_z157:=sZ [] 10 (some [2]) nC (fun x=>if x=0 then some [] else none) nP fN func157 fun avs r h=>by
 unfold s_z157 at h;split at h <;> cases h
 exact eX (qEs _)
theorem qmG:gG 168 s_z168:=sZ [] 19 (some [2]) nC (fun x=>if x=0 then some [] else none) nP fN func168 fun avs r h=>by
 unfold s_z168 at h;split at h <;> cases h
 exact eX (qEL _)
theorem qmH:gG 177 s_z177:=sY [] 6 (some [2]) fN func177 fun avs r h=>by
 unfold s_z177 at h;split at h <;> cases h
 exact eX (qES _)
theorem qxd:gG 178 s_z178:=sZ [(177,s_z177)] 40 (some [4]) nC (fun x=>if x=0 then some [1] else none) nP (fC qmH fN) func178 fun avs r h=>by
 unfold s_z178 at h;split at h <;> cases h
 exact eX (qEM _ _)
def qoS:EnvP:=eQ [(168,s_z168),(177,s_z177),(178,s_z178)] 45 (some [2]) (fun x=>if x=2 then some [0,3] else none) (fun x=>if x=0 then some [0,3] else if x=1 then some [0,3] else none) nP
def qCE:Code:=cO f167
def qOF:Array ResultVar:=f167.results
def qxe (s0:LU) (n3:Int):Fr:=frOf [(0,da s0),(3,dc n3)]
noncomputable def qoT (K:KT):=fun s0 n3=>K (.exit 0) (qxe s0 n3)
noncomputable def qoU (K:KT):=fun s2=>K .ret (frOf [(2,dc s2)])
def qJz (n:Nat):KT:=qn 0 (qoS.cutb 0) (kSeq (evCP qoS (evLP qoS n) (sub qCE [1,1,1])) (kFnP qoS qOF))
theorem qxf (K:KT) (n:Nat):(fun s0 n3=>evLP qoS n (sub qCE [1,1,0,0,0]) K (qxe s0 n3))=qiH (qoU K) (qoT K) n:=by
 induction n
 kernel_rfl;rename_i n ih;show _=qbV (qoU K) (qoT K) (qiH (qoU K) (qoT K) n) n;rw[← ih];kernel_rfl
theorem qOG (n:Nat) (s0:LU) (o0:Lab):evFnP qoS n qCE qOF [db s0 o0]=qrW n s0:=by
 unfold qrW;rw[(Eq.trans (by kernel_rfl) (qxf (qJz n) n).symm:qiH qyD (qaP n) n=_)];kernel_rfl
theorem qxg:gG 167 s_z167:=sQ (E:=qoS) (c:=qCE) rfl (fC qmG (fC qmH (fC qxd fN))) func167 fun avs r h=>by
 unfold s_z167 at h;split at h
 ·obtain⟨hp,rfl⟩:=yj h;exact eX (qEN _ hp) fun n=>qOG n _ _
 ·cases h
def qoV:EnvP:=eQ [(157,s_z157),(167,s_z167),(168,s_z168)] 63 (some [2,3,4]) (fun x=>if x=12 then some [5,6,48,49,50] else none) (fun x=>if x=0 then some [0,5] else if x=1 then some [5,6] else if x=2 then some [5,6,48,49,50] else none) nP
def qCF:Code:=cO f149
def qOH:Array ResultVar:=f149.results
noncomputable def qoW (K:KT):=fun n5 c6=>K (.exit 1) (frOf [(5,dc n5),(6,(di c6 none))])
def qJA (n:Nat):KT:=qn 1 (qoV.cutb 1) (kSeq (evCP qoV (evLP qoV n) (sub qCF [1,1,1,1,1,1])) (kFnP qoV qOH))
def qJB (n5:Int) (c6:Int) (s48:LU) (s49:Int) (s50:Int):Fr:=frOf [(5,dc n5),(6,(di c6 none)),(48,da s48),(49,dc s49),(50,dc s50)]
theorem qtY (K:KT) (n:Nat):(fun n5 c6 s48 s49 s50=>evLP qoV n (sub qCF [1,1,1,1,1,0,1,0,0]) K (qJB n5 c6 s48 s49 s50))=qeu (qoW K) n:=by
 induction n
 kernel_rfl;rename_i n ih;show _=qcn (qoW K) (qeu (qoW K) n) n;rw[← ih];kernel_rfl
theorem qOI (n:Nat) (s0:LU) (o0:Lab):evFnP qoV n qCF qOH [db s0 o0]=qrX n s0:=by
 unfold qrX qfm qfl qdq qco qbJ;rw[(Eq.trans (by kernel_rfl) (qtY (qJA n) n).symm:qeu (qfk n) n=_)];kernel_rfl
theorem qxh:gG 149 s_z149:=sQ (E:=qoV) (c:=qCF) rfl (fC qmF (fC qxg (fC qmG fN))) func149 fun avs r h=>by
 unfold s_z149 at h;split at h
 ·obtain⟨hp,rfl⟩:=yj h;exact eX (qET _ hp) fun n=>qOI n _ _
 ·cases h
def qxi:EnvP:=⟨⟨tiOf tis,fnsOf [(149,s_z149)],cnsOf [],[],23,(fun x=>if x=0 then some [0,1,24] else none),(fun x=>if x=0 then some [24] else if x=1 then some [0,1,24] else none),some [24]⟩,fun _=>none,fun _=>none,fun _=>[],(fun x=>if x=116 then some s_z116 else none),fun _=>none,fun _=>none,fun _=>none⟩
def qOJ:Code:=cO f115
def qOK:Array ResultVar:=f115.results
noncomputable def qoX (K:KT):=fun s24=>K (.exit 0) (frOf [(24,(.pbox (.osl 21 (.int .i32)) s24 none))])
def qJC (s0:LU) (f1:LI):KT:=qn 0 (qxi.cutb 0) (kFnM qxi qOK [db s0 none,.fn 116 [.pbox (.osl 21 (.int .i32)) f1 none]])
def qJD (s0:LU) (s24:LI):Fr:=frOf [(0,da s0),(1,(.padr 24 [.clo 116 false])),(24,(.pbox (.osl 21 (.int .i32)) s24 none))]
theorem qmI (K:KT) (n:Nat):(fun s0 s24=>evLP qxi n (sub qOJ [0,0]) K (qJD s0 s24))=qbK (qoX K) n:=by
 induction n
 kernel_rfl;rename_i n ih;show _=qcM (qoX K) (qbK (qoX K) n) n;rw[← ih];kernel_rfl
theorem qxj (n:Nat) (s0:LU) (o0:Lab) (f1:LI):evFnM qxi n qOJ qOK [db s0 o0,.fn 116 [.pbox (.osl 21 (.int .i32)) f1 none]]=qiI n s0 f1:=by
 unfold qiI;rw[(Eq.trans (by kernel_rfl) (qmI (qJC s0 f1) n).symm:qbK (qcN n) n=_)];kernel_rfl
theorem qxk:qjl G prog 115 s_z115:=sM (E:=qxi) (fun w S hg=>⟨⟨(qv (qxh w S hg) qJ),fun f sp h=>qI f sp h w S⟩,qW w S hg,(fun f sp h=>(qda (qxc w S hg) qgI) f sp h),(fun _ _ h=>by cases h),(fun _ _ h=>by cases h),(fun t kt vt h=>qR t kt vt h)⟩) func115 fun avs r h=>by
 unfold s_z115 at h;split at h
 ·obtain⟨hp,rfl⟩:=yj h;obtain⟨n,hn⟩:=qqf _ _ hp;exact⟨n,(qxj n _ _ _).trans hn⟩
 ·cases h
def E_z85:EnvP:=⟨⟨tiOf tis,fnsOf [],cnsOf [],[],8,(fun _=>none),(fun _=>none),some [2]⟩,(fun x=>if x=3 then some (.osl 21 (.int .i32)) else none),fun _=>none,fun _=>[],(fun x=>if x=115 then some s_z115 else none),fun _=>none,fun _=>none,fun _=>none⟩
def C_z85:Code:=cO f85
def R_z85:Array ResultVar:=f85.results
theorem qSt (n:Nat) (s0:LU) (o0:Lab):evFnP E_z85 n C_z85 R_z85 [db s0 o0]=qKB n s0:=by
 kernel_rfl
theorem qrr:gG 85 s_z85:=sG (E:=E_z85) (fun w S hg=>⟨⟨qJ,fun f sp h=>qI f sp h w S⟩,qW w S hg,(fun f sp h=>(qda (qxk w S hg) qgI) f sp h),(fun f sp h=>qaj f sp h),(fun f it h=>qak f it h),(fun t kt vt h=>qR t kt vt h)⟩) func85 fun avs r h=>by
 unfold s_z85 at h;split at h
 ·obtain⟨hp,rfl⟩:=yj h;exact eX (qLc _ hp) fun n=>qSt n _ _
 ·cases h
def qoY:EnvP:=eQ [] 23 (some [2]) (fun x=>if x=3 then some [3,9,10,11] else none) (fun x=>if x=0 then some [3] else if x=1 then some [3,9,10,11] else none) (fun x=>if x=8 then some (.psl 21 (.leaf (.int .i32))) else none)
def qCG:Code:=cO f114
def qOL:Array ResultVar:=f114.results
noncomputable def qoZ (K:KT):=fun t3=>K (.exit 0) (frOf [(3,(.pv (.psl 21 (.leaf (.int .i32))) t3 none))])
def qJE (n:Nat):KT:=qn 0 (qoY.cutb 0) (kSeq (evCP qoY (evLP qoY n) (sub qCG [1,1,1])) (kFnP qoY qOL))
def qJF (t3:LI) (s9:LU) (s10:Int) (s11:Int):Fr:=frOf [(3,(.pv (.psl 21 (.leaf (.int .i32))) t3 none)),(9,da s9),(10,dc s10),(11,dc s11)]
theorem qxl (K:KT) (n:Nat):(fun t3 s9 s10 s11=>evLP qoY n (sub qCG [1,1,0,1,0,0]) K (qJF t3 s9 s10 s11))=qjJ (qoZ K) n:=by
 induction n
 kernel_rfl;rename_i n ih;show _=qdI (qoZ K) (qjJ (qoZ K) n) n;rw[← ih];kernel_rfl
theorem qOM (n:Nat) (s0:LU) (o0:Lab):evFnP qoY n qCG qOL [db s0 o0]=qrY n s0:=by
 unfold qrY;rw[(Eq.trans (by kernel_rfl) (qxl (qJE n) n).symm:qjJ (qlm n) n=_)];kernel_rfl
theorem qmJ:gG 114 s_z114:=sQ (E:=qoY) (c:=qCG) rfl fN func114 fun avs r h=>by
 unfold s_z114 at h;split at h
 ·obtain⟨hp,rfl⟩:=yj h;exact eX (qEF _ hp) fun n=>qOM n _ _
 ·cases h
theorem qxm:gG 146 s_z146:=sY [] 6 (some [2]) fN func146 fun avs r h=>by
 unfold s_z146 at h;split at h <;> cases h
 exact eX (qEG _)
def qpa:EnvP:=eQ [(114,s_z114),(146,s_z146)] 24 (some [2]) (fun x=>if x=4 then some [3,4,9,10,11] else none) (fun x=>if x=0 then some [3] else if x=1 then some [3,4,9,10,11] else none) (fun x=>if x=8 then some (.psl 21 (.leaf (.int .i32))) else none)
def qCH:Code:=cO f111
def qON:Array ResultVar:=f111.results
noncomputable def qJG (K:KT):=fun t3=>K (.exit 0) (frOf [(3,(.pv (.psl 21 (.leaf (.int .i32))) t3 none))])
def qJH (n:Nat):KT:=qn 0 (qpa.cutb 0) (kSeq (evCP qpa (evLP qpa n) (sub qCH [1,1,1,1])) (kFnP qpa qON))
def qJI (t3:LI) (s10:Int) (s11:Int):Fr:=frOf [(3,(.pv (.psl 21 (.leaf (.int .i32))) t3 none)),(4,(.fn 146 [])),(9,(.pval 3 [])),(10,dc s10),(11,dc s11)]
theorem qxn (K:KT) (n:Nat):(fun t3 s10 s11=>evLP qpa n (sub qCH [1,1,1,0,1,0,0]) K (qJI t3 s10 s11))=qjK (qJG K) n:=by
 induction n
 kernel_rfl;rename_i n ih;show _=qdJ (qJG K) (qjK (qJG K) n) n;rw[← ih];kernel_rfl
theorem qOO (n:Nat) (s0:LU) (o0:Lab):evFnP qpa n qCH qON [db s0 o0]=qrZ n s0:=by
 unfold qrZ;rw[(Eq.trans (by kernel_rfl) (qxn (qJH n) n).symm:qjK (qln n) n=_)];kernel_rfl
theorem qxo:gG 111 s_z111:=sQ (E:=qpa) (c:=qCH) rfl (fC qmJ (fC qxm fN)) func111 fun avs r h=>by
 unfold s_z111 at h;split at h
 ·obtain⟨hp,rfl⟩:=yj h;exact eX (qEH _ hp) fun n=>qOO n _ _
 ·cases h
theorem qmK:gG 158 s_z158:=sY [] 10 (some [0]) fN func158 fun avs r h=>by
 unfold s_z158 at h;split at h <;> cases h
 exact eX (qEt )
def qpb:EnvP:=eQ [(158,s_z158)] 18 (some [2]) (fun x=>if x=2 then some [0,5,6] else none) (fun x=>if x=0 then some [0] else if x=1 then some [0,5,6] else none) nP
def qCI:Code:=cO f147
def qOP:Array ResultVar:=f147.results
noncomputable def qpc (K:KT):=fun s2=>K .ret (frOf [(2,(di s2 none))])
noncomputable def qpd (K:KT):=fun x0=>K (.exit 0) (frOf [(0,dm x0)])
def qJJ (n:Nat):KT:=qn 0 (qpb.cutb 0) (kSeq (evCP qpb (evLP qpb n) (sub qCI [1,1])) (kFnP qpb qOP))
def qJK (x0:UInt8) (s5:List (UInt8×(Int×Unit))) (s6:Int):Fr:=frOf [(0,dm x0),(5,(.dat (.arr 8 (.pair .byte (.pair (.int .i32) .unit))) s5 none)),(6,dc s6)]
theorem qxp (K:KT) (n:Nat):(fun x0 s5 s6=>evLP qpb n (sub qCI [1,0,1,0,0]) K (qJK x0 s5 s6))=qng (qpc K) (qpd K) n:=by
 induction n
 kernel_rfl;rename_i n ih;show _=qsa (qpc K) (qpd K) (qng (qpc K) (qpd K) n) n;rw[← ih];kernel_rfl
theorem qOQ (n:Nat) (x0:UInt8) (o0:Lab):evFnP qpb n qCI qOP [dn x0 o0]=qsc n x0:=by
 unfold qsc;rw[(Eq.trans (by kernel_rfl) (qxp (qJJ n) n).symm:qng qpL (qsb n) n=_)];kernel_rfl
theorem qxq:gG 147 s_z147:=sQ (E:=qpb) (c:=qCI) rfl (fC qmK fN) func147 fun avs r h=>by
 unfold s_z147 at h;split at h <;> cases h
 exact eX (qEI _) fun n=>qOQ n _ _
def qpe:EnvP:=eQ [(147,s_z147)] 19 (some [2]) (fun x=>if x=3 then some [3,6,7,8] else none) (fun x=>if x=0 then some [3] else if x=1 then some [3,6,7,8] else none) nP
def qCJ:Code:=cO f112
def qOR:Array ResultVar:=f112.results
noncomputable def qpf (K:KT):=fun t3=>K (.exit 0) (frOf [(3,(.dat (.sl (.int .i32)) t3 (some (3,21))))])
def qJL (n:Nat):KT:=qn 0 (qpe.cutb 0) (kSeq (evCP qpe (evLP qpe n) (sub qCJ [1,1,1])) (kFnP qpe qOR))
def qJM (t3:LI) (s6:LU) (s7:Int) (s8:Int):Fr:=frOf [(3,(.dat (.sl (.int .i32)) t3 (some (3,21)))),(6,da s6),(7,dc s7),(8,dc s8)]
theorem qxr (K:KT) (n:Nat):(fun t3 s6 s7 s8=>evLP qpe n (sub qCJ [1,1,0,1,0,0]) K (qJM t3 s6 s7 s8))=qjL (qpf K) n:=by
 induction n
 kernel_rfl;rename_i n ih;show _=qdK (qpf K) (qjL (qpf K) n) n;rw[← ih];kernel_rfl
theorem qOS (n:Nat) (s0:LU) (o0:Lab):evFnP qpe n qCJ qOR [db s0 o0]=qsd n s0:=by
 unfold qsd;rw[(Eq.trans (by kernel_rfl) (qxr (qJL n) n).symm:qjL (qhz n) n=_)];kernel_rfl
theorem qxs:gG 112 s_z112:=sQ (E:=qpe) (c:=qCJ) rfl (fC qxq fN) func112 fun avs r h=>by
 unfold s_z112 at h;split at h
 ·obtain⟨hp,rfl⟩:=yj h;exact eX (qEJ _ hp) fun n=>qOS n _ _
 ·cases h
def qOT:EnvP:=⟨⟨tiOf tis,fnsOf [],cnsOf [],[],4,(fun _=>none),(fun _=>none),some [0]⟩,fun _=>none,fun _=>none,(fun x=>if x=500002 then [1] else []),fun _=>none,fun _=>none,fun _=>none,fun _=>none⟩
def qSu:Code:=cO f159
def qSv:Array ResultVar:=f159.results
theorem qOU (n:Nat)  : evFnP qOT n qSu qSv []=qHp n  := by
 kernel_rfl
theorem qmL:gG 159 s_z159:=sG (E:=qOT) (fun w S hg=>⟨⟨qJ,fun f sp h=>qI f sp h w S⟩,qW w S hg,(fun _ _ h=>by cases h),(fun f sp h=>qaj f sp h),(fun f it h=>qak f it h),(fun t kt vt h=>qR t kt vt h)⟩) func159 fun avs r h=>by
 unfold s_z159 at h;split at h <;> cases h
 exact eX (qEu ) fun n=>qOU n
theorem qxt:gG 148 s_z148:=sY [(159,s_z159)] 20 (some [2]) (fC qmL fN) func148 fun avs r h=>by
 unfold s_z148 at h;split at h <;> cases h
 exact eX (qER _)
def qpg:EnvP:=eQ [(148,s_z148)] 22 (some [2]) (fun x=>if x=3 then some [3,9,10,11] else none) (fun x=>if x=0 then some [3] else if x=1 then some [3,9,10,11] else none) nP
def qCK:Code:=cO f113
def qOV:Array ResultVar:=f113.results
noncomputable def qph (K:KT):=fun t3=>K (.exit 0) (frOf [(3,(.dat (.sl (.int .i32)) t3 (some (3,21))))])
def qJN (n:Nat):KT:=qn 0 (qpg.cutb 0) (kSeq (evCP qpg (evLP qpg n) (sub qCK [1,1,1])) (kFnP qpg qOV))
def qJO (t3:LI) (s9:LU) (s10:Int) (s11:Int):Fr:=frOf [(3,(.dat (.sl (.int .i32)) t3 (some (3,21)))),(9,da s9),(10,dc s10),(11,dc s11)]
theorem qxu (K:KT) (n:Nat):(fun t3 s9 s10 s11=>evLP qpg n (sub qCK [1,1,0,1,0,0]) K (qJO t3 s9 s10 s11))=qjM (qph K) n:=by
 induction n
 kernel_rfl;rename_i n ih;show _=qdL (qph K) (qjM (qph K) n) n;rw[← ih];kernel_rfl
theorem qOW (n:Nat) (s0:LU) (o0:Lab):evFnP qpg n qCK qOV [db s0 o0]=qse n s0:=by
 unfold qse;rw[(Eq.trans (by kernel_rfl) (qxu (qJN n) n).symm:qjM (qhA n) n=_)];kernel_rfl
theorem qxv:gG 113 s_z113:=sQ (E:=qpg) (c:=qCK) rfl (fC qxt fN) func113 fun avs r h=>by
 unfold s_z113 at h;split at h
 ·obtain⟨hp,rfl⟩:=yj h;exact eX (qEK _ hp) fun n=>qOW n _ _
 ·cases h
theorem qCL:gG 84 s_z84:=sZ [(85,s_z85),(111,s_z111),(112,s_z112),(113,s_z113),(114,s_z114)] 24 (some [1000004]) nC (fun x=>if x=0 then some [1] else none) nP (fC qrr (fC qxo (fC qxs (fC qxv (fC qmJ fN))))) func84 fun avs r h=>by
 unfold s_z84 at h;split at h
 ·obtain⟨hp,rfl⟩:=yj h;exact eX (qKZ _ _ hp)
 ·cases h
def E_z57:EnvP:=eQ [(29,s_z29),(81,s_z81),(82,s_z82),(83,s_z83),(84,s_z84),(85,s_z85)] 60 (some [2]) (fun x=>if x=11 then some [3,4,10,42,43,44] else none) (fun x=>if x=0 then some [3,4,10] else if x=1 then some [3,4,10,42,43,44] else none) nP
def C_z57:Code:=cO f57
def R_z57:Array ResultVar:=f57.results
noncomputable def qxw (K:KT):=fun first3 charset4 s10=>K (.exit 0) (frOf [(3,(.box (.pair (.sl .byte) (.pair (.int .i64) (.pair .bool (.pair (.sl .byte) .unit)))) first3)),(4,dc charset4),(10,(db s10 (some (10,5))))])
def qOX (n:Nat):KT:=qn 0 (E_z57.cutb 0) (kSeq (evCP E_z57 (evLP E_z57 n) (sub C_z57 [1,1,1,1,1,1])) (kFnP E_z57 R_z57))
def qOY (first3:LU×(Int×(Bool×(LU×Unit)))) (charset4:Int) (s10:LU) (s42:List (LU×(Int×(Bool×(LU×Unit))))) (s43:Int) (s44:Int):Fr:=frOf [(3,(.box (.pair (.sl .byte) (.pair (.int .i64) (.pair .bool (.pair (.sl .byte) .unit)))) first3)),(4,dc charset4),(10,(db s10 (some (10,5)))),(42,(.dat (.sl (.pair (.sl .byte) (.pair (.int .i64) (.pair .bool (.pair (.sl .byte) .unit))))) s42 none)),(43,dc s43),(44,dc s44)]
theorem qxx (K:KT) (n:Nat):(fun first3 charset4 s10 s42 s43 s44=>evLP E_z57 n (sub C_z57 [1,1,1,1,1,0,1,0,0]) K (qOY first3 charset4 s10 s42 s43 s44))=qef (qxw K) n:=by
 induction n
 kernel_rfl;rename_i n ih;show _=qdM (qxw K) (qef (qxw K) n) n;rw[← ih];kernel_rfl
theorem qSw (n:Nat) (l0:List (LU×(Int×(Bool×(LU×Unit))))) (o0:Lab):evFnP E_z57 n C_z57 R_z57 [.dat (.sl (.pair (.sl .byte) (.pair (.int .i64) (.pair .bool (.pair (.sl .byte) .unit))))) l0 o0]=qDZ n l0:=by
 unfold qDZ qdN qbl qal qU;rw[(Eq.trans (by kernel_rfl) (qxx (qOX n) n).symm:qef (qaQ n) n=_)];kernel_rfl
theorem qCM:gG 57 s_z57:=sQ (E:=E_z57) (c:=C_z57) rfl (fC qrq (fC qCC (fC qCb (fC qCD (fC qCL (fC qrr fN)))))) func57 fun avs r h=>by
 unfold s_z57 at h;split at h
 ·obtain⟨hp,rfl⟩:=yj h;exact eX (qMo _ hp) fun n=>qSw n _ _
 ·cases h
def E_z38:EnvP:=⟨⟨tiOf tis,fnsOf [(37,s_z37),(56,s_z56),(57,s_z57)],cnsOf [],[],60,(fun x=>if x=4 then some [0,3,4,13,14,15] else if x=12 then some [0,3,4,7,9,13,14,15,37,38,39] else none),(fun x=>if x=0 then some [3] else if x=1 then some [0,3,4,13,14,15] else if x=2 then some [0,3,4,7,9,13,14,15] else if x=3 then some [0,3,4,7,9,13,14,15,37,38,39] else none),some [2]⟩,fun _=>none,fun _=>none,fun _=>[],fun _=>none,fun _=>none,fun _=>none,(fun x=>if x=95 then some (9,4) else none)⟩
def C_z38:Code:=cO f38
def R_z38:Array ResultVar:=f38.results
noncomputable def qxy (K:KT):=fun l0 out3 met4 name7 of9 s13 s14 s15=>K (.exit 2) (frOf [(0,(.dat (.sl (.pair (.sl .byte) (.pair (.int .i64) (.pair .bool (.pair (.sl .byte) .unit))))) l0 none)),(3,(.dat (.sl (.pair (.sl .byte) (.pair (.sl (.int .i32)) .unit))) out3 (some (3,51)))),(4,(.abs (.sl (.pair .str .bool)) (qjm .str .bool) met4)),(7,(db name7 (some (7,5)))),(9,(.dat (.sl (.pair (.sl .byte) (.pair (.int .i64) (.pair .bool (.pair (.sl .byte) .unit))))) of9 (some (9,97)))),(13,(.dat (.sl (.pair (.sl .byte) (.pair (.int .i64) (.pair .bool (.pair (.sl .byte) .unit))))) s13 none)),(14,dc s14),(15,dc s15)])
noncomputable def qrs (K:KT):=fun out3=>K (.exit 0) (frOf [(3,(.dat (.sl (.pair (.sl .byte) (.pair (.sl (.int .i32)) .unit))) out3 (some (3,51))))])
def qOZ (n:Nat) (K:KT):KT:=qn 2 (E_z38.cutb 2) (kSeq (evCP E_z38 (evLP E_z38 n) (sub C_z38 [1,1,1,0,1,0,0,1,1,0,0,1,1,1,1,1,1,1])) (qn 1 (E_z38.cutb 1) (kSeq (evCP E_z38 (evLP E_z38 n) (sub C_z38 [1,1,1,0,1,0,0,1,1,1])) (kSeq (fun K fr=>evLP E_z38 n (sub C_z38 [1,1,1,0,1,0,0]) K (cutFP (E_z38.cuts 4) fr)) K))))
def qPa (n:Nat):KT:=qn 0 (E_z38.cutb 0) (kSeq (evCP E_z38 (evLP E_z38 n) (sub C_z38 [1,1,1,1])) (kFnP E_z38 R_z38))
def qPb (l0:List (LU×(Int×(Bool×(LU×Unit))))) (out3:List (LU×(LI×Unit))) (met4:List (LU×Bool)) (name7:LU) (of9:List (LU×(Int×(Bool×(LU×Unit))))) (s13:List (LU×(Int×(Bool×(LU×Unit))))) (s14:Int) (s15:Int) (s37:LI) (s38:Int) (s39:Int):Fr:=frOf [(0,(.dat (.sl (.pair (.sl .byte) (.pair (.int .i64) (.pair .bool (.pair (.sl .byte) .unit))))) l0 none)),(3,(.dat (.sl (.pair (.sl .byte) (.pair (.sl (.int .i32)) .unit))) out3 (some (3,51)))),(4,(.abs (.sl (.pair .str .bool)) (qjm .str .bool) met4)),(7,(db name7 (some (7,5)))),(9,(.dat (.sl (.pair (.sl .byte) (.pair (.int .i64) (.pair .bool (.pair (.sl .byte) .unit))))) of9 (some (9,97)))),(13,(.dat (.sl (.pair (.sl .byte) (.pair (.int .i64) (.pair .bool (.pair (.sl .byte) .unit))))) s13 none)),(14,dc s14),(15,dc s15),(37,(.dat (.sl (.int .i64)) s37 none)),(38,dc s38),(39,dc s39)]
def qGN (l0:List (LU×(Int×(Bool×(LU×Unit))))) (out3:List (LU×(LI×Unit))) (met4:List (LU×Bool)) (s13:List (LU×(Int×(Bool×(LU×Unit))))) (s14:Int) (s15:Int):Fr:=frOf [(0,(.dat (.sl (.pair (.sl .byte) (.pair (.int .i64) (.pair .bool (.pair (.sl .byte) .unit))))) l0 none)),(3,(.dat (.sl (.pair (.sl .byte) (.pair (.sl (.int .i32)) .unit))) out3 (some (3,51)))),(4,(.abs (.sl (.pair .str .bool)) (qjm .str .bool) met4)),(13,(.dat (.sl (.pair (.sl .byte) (.pair (.int .i64) (.pair .bool (.pair (.sl .byte) .unit))))) s13 none)),(14,dc s14),(15,dc s15)]
theorem qxz (K:KT) (n:Nat):(fun l0 out3 met4 name7 of9 s13 s14 s15 s37 s38 s39=>evLP E_z38 n (sub C_z38 [1,1,1,0,1,0,0,1,1,0,0,1,1,1,1,1,1,0,1,0,0]) K (qPb l0 out3 met4 name7 of9 s13 s14 s15 s37 s38 s39))=qjP (qxy K) n:=by
 induction n
 kernel_rfl;rename_i n ih;show _=qdO (qxy K) (qjP (qxy K) n) n;rw[← ih];kernel_rfl
theorem qCN (K:KT) (n:Nat):(fun l0 out3 met4 s13 s14 s15=>evLP E_z38 n (sub C_z38 [1,1,1,0,1,0,0]) K (qGN l0 out3 met4 s13 s14 s15))=qpN (qrs K) n:=by
 induction n
 kernel_rfl;rename_i n ih;funext l0 out3 met4 s13 s14 s15;show _=qev (qrs K) (qpN (qrs K) n) n l0 out3 met4 s13 s14 s15;rw[← ih];unfold qev qae;rw[(Eq.trans (by kernel_rfl) (qxz (qOZ n K) n).symm:qjP (qhB (qrs K) (fun l0 out3 met4 s13 s14 s15=>evLP E_z38 n (sub C_z38 [1,1,1,0,1,0,0]) K (qGN l0 out3 met4 s13 s14 s15)) n) n=_)];kernel_rfl
theorem qSx (n:Nat) (l0:List (LU×(Int×(Bool×(LU×Unit))))) (o0:Lab):evFnP E_z38 n C_z38 R_z38 [.dat (.sl (.pair (.sl .byte) (.pair (.int .i64) (.pair .bool (.pair (.sl .byte) .unit))))) l0 o0]=qKC n l0:=by
 unfold qKC;rw[(Eq.trans (by kernel_rfl) (qCN (qPa n) n).symm:qpN (qiK n) n=_)];kernel_rfl
theorem qCO:gG 38 s_z38:=sG (E:=E_z38) (fun w S hg=>⟨⟨(qv (qfe w S hg) (qv (qCq w S hg) (qv (qCM w S hg) qJ))),fun f sp h=>qI f sp h w S⟩,qW w S hg,(fun _ _ h=>by cases h),(fun f sp h=>qaj f sp h),(fun f it h=>qak f it h),(fun t kt vt h=>(qoj (by kernel_rfl) qR) t kt vt h)⟩) func38 fun avs r h=>by
 unfold s_z38 at h;split at h
 ·obtain⟨hp,rfl⟩:=yj h;exact eX (qMt _ hp) fun n=>qSx n _ _
 ·cases h
end
end
end Go.Av
