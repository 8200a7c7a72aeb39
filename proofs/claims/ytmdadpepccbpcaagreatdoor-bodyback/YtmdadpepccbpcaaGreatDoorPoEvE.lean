import Derived.Test.YtmdadpepccbpcaaGreatDoorPoEvD
import Derived.Test.YtmdadpepccbpcaaGreatDoorPoD
import Derived.Test.YtmdadpepccbpcaaGreatDoorAvE
import Derived.Test.YtmdadpepccbpcaaGreatDoorProg
import Derived.KernelRfl
namespace Go.Av
set_option linter.unusedSimpArgs false
set_option linter.unusedVariables false
section
noncomputable section
open Go.Proofs Go.Proofs.Tryz
set_option maxRecDepth 100000
set_option linter.unusedVariables false
def E_z79:EnvP:=⟨⟨tiOf tis,fnsOf [(139,s_z139)],cnsOf [],[],18,(fun _=>none),(fun _=>none),some [2]⟩,(fun x=>if x=1 then some (.leaf (.sl .byte)) else none),fun _=>none,fun _=>[],(fun x=>if x=140 then some s_z140 else none),fun _=>none,fun _=>none,fun _=>none⟩
def C_z79:Code:=cO f79
def R_z79:Array ResultVar:=f79.results
theorem qNr (n:Nat) (s0:LU) (o0:Lab):evFnP E_z79 n C_z79 R_z79 [db s0 o0]=qIc n s0:=by
 kernel_rfl
theorem qAx:gG 79 s_z79:=sG (E:=E_z79) (fun w S hg=>⟨⟨(qq (qlN w S hg) qQ),fun f sp h=>qP f sp h w S⟩,qW w S hg,(fun f sp h=>(qeX (qvt w S hg) qkD) f sp h),(fun f sp h=>qah f sp h),(fun f it h=>qai f it h),(fun t kt vt h=>qX t kt vt h)⟩) func79 fun avs r h=>by
 unfold s_z79 at h;split at h
 ·obtain⟨hp,rfl⟩:=yj h;exact eX (qHG _ hp) fun n=>qNr n _ _
 ·cases h
theorem qjO:gG 82 s_z82:=sY [(143,s_z143)] 23 (some [4,1000005,6]) (fC qly fN) func82 fun avs r h=>by
 unfold s_z82 at h;split at h
 ·obtain⟨hp,rfl⟩:=yj h;exact eX (qIu _ _ hp) fun n=>by kernel_rfl
 ·cases h
def qnU:EnvP:=eQ [(82,s_z82),(153,s_z153)] 25 (some [2]) (fun x=>if x=2 then some [0,3] else none) (fun x=>if x=0 then some [3] else if x=1 then some [0,3] else none) nP
def qAy:Code:=cO f142
def qKL:Array ResultVar:=f142.results
noncomputable def qnV (K:KT):=fun out3=>K (.exit 0) (frOf [(3,(.dat (.sl (.sl .byte)) out3 (some (3,24))))])
def qHj (n:Nat):KT:=qk 0 (qnU.cutb 0) (kSeq (evCP qnU (evLP qnU n) (sub qAy [1,1,1])) (kFnP qnU qKL))
def qHk (s0:LU) (out3:List LU):Fr:=frOf [(0,da s0),(3,(.dat (.sl (.sl .byte)) out3 (some (3,24))))]
theorem qvu (K:KT) (n:Nat):(fun s0 out3=>evLP qnU n (sub qAy [1,1,0,0,0]) K (qHk s0 out3))=qfZ (qnV K) n:=by
 induction n
 kernel_rfl;rename_i n ih;show _=qgD (qnV K) (qfZ (qnV K) n) n;rw[← ih];kernel_rfl
theorem qKM (n:Nat) (s0:LU) (o0:Lab):evFnP qnU n qAy qKL [db s0 o0]=qqF n s0:=by
 unfold qqF;rw[(Eq.trans (by kernel_rfl) (qvu (qHj n) n).symm:qfZ (qqE n) n=_)];kernel_rfl
theorem qvv:gG 142 s_z142:=sQ (E:=qnU) (c:=qAy) rfl (fC qjO (fC qhr fN)) func142 fun avs r h=>by
 unfold s_z142 at h;split at h
 ·obtain⟨hp,rfl⟩:=yj h;exact eX (qBy _ hp) fun n=>qKM n _ _
 ·cases h
def E_z81:EnvP:=eQ [(142,s_z142)] 19 (some [2]) (fun x=>if x=3 then some [3,7,8,9] else none) (fun x=>if x=0 then some [3] else if x=1 then some [3,7,8,9] else none) nP
def C_z81:Code:=cO f81
def R_z81:Array ResultVar:=f81.results
noncomputable def qvw (K:KT):=fun n3=>K (.exit 0) (frOf [(3,dc n3)])
def qKN (n:Nat):KT:=qk 0 (E_z81.cutb 0) (kSeq (evCP E_z81 (evLP E_z81 n) (sub C_z81 [1,1,1])) (kFnP E_z81 R_z81))
def qKO (n3:Int) (s7:List LU) (s8:Int) (s9:Int):Fr:=frOf [(3,dc n3),(7,(.dat (.sl (.sl .byte)) s7 (some (7,24)))),(8,dc s8),(9,dc s9)]
theorem qAz (K:KT) (n:Nat):(fun n3 s7 s8 s9=>evLP E_z81 n (sub C_z81 [1,1,0,1,0,0]) K (qKO n3 s7 s8 s9))=qme (qvw K) n:=by
 induction n
 kernel_rfl;rename_i n ih;show _=qfx (qvw K) (qme (qvw K) n) n;rw[← ih];kernel_rfl
theorem qNs (n:Nat) (s0:LU) (o0:Lab):evFnP E_z81 n C_z81 R_z81 [db s0 o0]=qBS n s0:=by
 unfold qBS;rw[(Eq.trans (by kernel_rfl) (qAz (qKN n) n).symm:qme (qoy n) n=_)];kernel_rfl
theorem qAA:gG 81 s_z81:=sQ (E:=E_z81) (c:=C_z81) rfl (fC qvv fN) func81 fun avs r h=>by
 unfold s_z81 at h;split at h
 ·obtain⟨hp,rfl⟩:=yj h;exact eX (qHD _ hp) fun n=>qNs n _ _
 ·cases h
def E_z37:EnvP:=eQ [(78,s_z78),(79,s_z79),(80,s_z80),(81,s_z81)] 43 (some [4]) (fun x=>if x=4 then some [0,1,5,6,9,10,11] else none) (fun x=>if x=0 then some [0,1,6] else if x=1 then some [0,1,5,6,9,10,11] else if x=2 then some [] else none) nP
def C_z37:Code:=cO f37
def R_z37:Array ResultVar:=f37.results
noncomputable def X_z78 (K:KT):=fun s0 most1 above6=>K (.exit 0) (frOf [(0,da s0),(1,dc most1),(6,dg above6)])
def qKP (n:Nat):KT:=qk 0 (E_z37.cutb 0) (kSeq (evCP E_z37 (evLP E_z37 n) (sub C_z37 [1,1,1,1])) (kFnP E_z37 R_z37))
def qKQ (s0:LU) (most1:Int) (above6:Bool) (s9:LU) (s10:Int) (s11:Int):Fr:=frOf [(0,da s0),(1,dc most1),(5,(.fn 78 [])),(6,dg above6),(9,da s9),(10,dc s10),(11,dc s11)]
theorem qAB (K:KT) (n:Nat):(fun s0 most1 above6 s9 s10 s11=>evLP E_z37 n (sub C_z37 [1,1,1,0,1,0,0]) K (qKQ s0 most1 above6 s9 s10 s11))=qmf (X_z78 K) n:=by
 induction n
 kernel_rfl;rename_i n ih;show _=qfy (X_z78 K) (qmf (X_z78 K) n) n;rw[← ih];kernel_rfl
theorem qNt (n:Nat) (s0:LU) (o0:Lab) (most1:Int) (o1:Lab):evFnP E_z37 n C_z37 R_z37 [db s0 o0,de most1 o1]=qId n s0 most1:=by
 unfold qId;rw[(Eq.trans (by kernel_rfl) (qAB (qKP n) n).symm:qmf (qkc n) n=_)];kernel_rfl
theorem qqb:gG 37 s_z37:=sQ (E:=E_z37) (c:=C_z37) rfl (fC qAw (fC qAx (fC qzZ (fC qAA fN)))) func37 fun avs r h=>by
 unfold s_z37 at h;split at h
 ·obtain⟨hp,rfl⟩:=yj h;exact eX (qHJ _ _ hp) fun n=>qNt n _ _ _ _
 ·cases h
theorem qAC:gG 60 s_z60:=sY [(37,s_z37)] 7 (some [2,3]) (fC qqb fN) func60 fun avs r h=>by
 unfold s_z60 at h;split at h
 ·obtain⟨hp,rfl⟩:=yj h;exact eX (qHN _ hp) fun n=>by kernel_rfl
 ·cases h
def qKR:EnvP:=eQ [] 25 (some [25]) nC nC (fun x=>if x=11 then some (.osl 5 .byte) else if x=19 then some (.osl 5 .byte) else none)
def qNu:Code:=cO f121
def qNv:Array ResultVar:=f121.results
theorem qKS (n:Nat) (p0:LU×(Int×Unit)) (soft1:Bool) (o1:Lab):evFnM qKR n qNu qNv [.pbox (.ppair (.osl 5 .byte) (.ppair (.leaf (.int .i64)) (.leaf .unit))) p0 none,dh soft1 o1]=qxn n p0 soft1:=by
 kernel_rfl
theorem qlO:qil G prog 121 s_z121:=sM (E:=qKR) (fun w S hg=>⟨⟨qQ,fun f sp h=>qP f sp h w S⟩,qW w S hg,(fun _ _ h=>by cases h),(fun f sp h=>qah f sp h),(fun f it h=>qai f it h),(fun t kt vt h=>qX t kt vt h)⟩) func121 fun avs r h=>by
 unfold s_z121 at h;split at h
 ·obtain⟨hp,rfl⟩:=yj h;obtain⟨n,hn⟩:=qDy _ _ hp;exact⟨n,(qKS n _ _ _).trans hn⟩
 ·cases h
def qKT:EnvP:=⟨⟨tiOf tis,fnsOf [],cnsOf [],[],32,(fun _=>none),(fun _=>none),some [32]⟩,(fun x=>if x=20 then some (.osl 5 .byte) else none),fun _=>none,fun _=>[],(fun x=>if x=121 then some s_z121 else none),fun _=>none,fun _=>none,fun _=>none⟩
def qNw:Code:=cO f119
def qNx:Array ResultVar:=f119.results
theorem qKU (n:Nat) (p0:LU×(Int×Unit)) (u1:LU) (o1:Lab):evFnM qKT n qNw qNx [.pbox (.ppair (.osl 5 .byte) (.ppair (.leaf (.int .i64)) (.leaf .unit))) p0 none,db u1 o1]=qxo n p0 u1:=by
 kernel_rfl
theorem qvx:qil G prog 119 s_z119:=sM (E:=qKT) (fun w S hg=>⟨⟨qQ,fun f sp h=>qP f sp h w S⟩,qW w S hg,(fun f sp h=>(qeX (qlO w S hg) qkD) f sp h),(fun f sp h=>qah f sp h),(fun f it h=>qai f it h),(fun t kt vt h=>qX t kt vt h)⟩) func119 fun avs r h=>by
 unfold s_z119 at h;split at h
 ·obtain⟨hp,rfl⟩:=yj h;obtain⟨n,hn⟩:=qDz _ _ hp;exact⟨n,(qKU n _ _ _).trans hn⟩
 ·cases h
theorem qvy:gG 120 s_z120:=sZ [] 45 (some [4]) nC (fun x=>if x=0 then some [] else none) nP fN func120 fun avs r h=>by
 unfold s_z120 at h;split at h
 ·obtain⟨hp,rfl⟩:=yj h;exact eX (qDx _ _ hp) fun n=>by kernel_rfl
 ·cases h
theorem qvz:gG 239 s_z239:=sY [] 6 (some [2]) fN func239 fun avs r h=>by
 unfold s_z239 at h;split at h
 ·obtain⟨hp,rfl⟩:=yj h;exact eX (qCJ _ hp) fun n=>by kernel_rfl
 ·cases h
theorem qvA:gG 219 s_z219:=sY [(239,s_z239)] 11 (some [2]) (fC qvz fN) func219 fun avs r h=>by
 unfold s_z219 at h;split at h <;> cases h
 exact eX (qCK _) fun n=>by kernel_rfl
theorem qvB:gG 179 s_z179:=sY [(153,s_z153),(219,s_z219)] 15 (some [6]) (fC qhr (fC qvA fN)) func179 fun avs r h=>by
 unfold s_z179 at h;split at h
 ·obtain⟨hp,rfl⟩:=yj h;exact eX (qCL _ _ _ hp) fun n=>by kernel_rfl
 ·cases h
theorem qvC:gG 122 s_z122:=sY [(144,s_z144),(179,s_z179)] 23 (some [4]) (fC qhs (fC qvB fN)) func122 fun avs r h=>by
 unfold s_z122 at h;split at h <;> cases h
 exact eX (qDw _ _) fun n=>by kernel_rfl
def E_z62:EnvP:=⟨⟨tiOf tis,fnsOf [(120,s_z120),(122,s_z122)],cnsOf [],[],50,(fun x=>if x=4 then some [0,3,4,5] else none),(fun x=>if x=0 then some [3] else if x=1 then some [0,3,4,5] else none),some [2]⟩,(fun x=>if x=7 then some (.ppair (.osl 5 .byte) (.ppair (.leaf (.int .i64)) (.leaf .unit))) else if x=8 then some (.ppair (.osl 5 .byte) (.ppair (.leaf (.int .i64)) (.leaf .unit))) else none),fun _=>none,fun _=>[],(fun x=>if x=119 then some s_z119 else if x=121 then some s_z121 else none),fun _=>none,fun _=>none,fun _=>none⟩
def C_z62:Code:=cO f62
def R_z62:Array ResultVar:=f62.results
noncomputable def qvD (K:KT):=fun p3=>K (.exit 0) (frOf [(3,(.pbox (.ppair (.osl 5 .byte) (.ppair (.leaf (.int .i64)) (.leaf .unit))) p3 none))])
def qKV (n:Nat):KT:=qk 0 (E_z62.cutb 0) (kSeq (evCP E_z62 (evLP E_z62 n) (sub C_z62 [1,1,1,1])) (kFnP E_z62 R_z62))
def qKW (s0:LU) (p3:LU×(Int×Unit)) (at5:Int):Fr:=frOf [(0,da s0),(3,(.pbox (.ppair (.osl 5 .byte) (.ppair (.leaf (.int .i64)) (.leaf .unit))) p3 none)),(4,(.padr 3 [.clo 119 true])),(5,dc at5)]
theorem qAD (K:KT) (n:Nat):(fun s0 p3 at5=>evLP E_z62 n (sub C_z62 [1,1,1,0,1,0,0]) K (qKW s0 p3 at5))=qsp (qvD K) n:=by
 induction n
 kernel_rfl;rename_i n ih;show _=qcZ (qvD K) (qsp (qvD K) n) n;rw[← ih];kernel_rfl
theorem qNy (n:Nat) (s0:LU) (o0:Lab):evFnP E_z62 n C_z62 R_z62 [db s0 o0]=qBT n s0:=by
 unfold qBT;rw[(Eq.trans (by kernel_rfl) (qAD (qKV n) n).symm:qsp (qkd n) n=_)];kernel_rfl
theorem qAE:gG 62 s_z62:=sG (E:=E_z62) (fun w S hg=>⟨⟨(qq (qvy w S hg) (qq (qvC w S hg) qQ)),fun f sp h=>qP f sp h w S⟩,qW w S hg,(fun f sp h=>(qeX (qvx w S hg) (qeX (qlO w S hg) qkD)) f sp h),(fun f sp h=>qah f sp h),(fun f it h=>qai f it h),(fun t kt vt h=>qX t kt vt h)⟩) func62 fun avs r h=>by
 unfold s_z62 at h;split at h
 ·obtain⟨hp,rfl⟩:=yj h;exact eX (qIO _ hp) fun n=>qNy n _ _
 ·cases h
theorem qAF:gG 61 s_z61:=sY [(62,s_z62)] 6 (some [2,3]) (fC qAE fN) func61 fun avs r h=>by
 unfold s_z61 at h;split at h
 ·obtain⟨hp,rfl⟩:=yj h;exact eX (qHO _ hp) fun n=>by kernel_rfl
 ·cases h
theorem qvE:gG 222 s_z222:=sY [] 6 (some [2]) fN func222 fun avs r h=>by
 unfold s_z222 at h;split at h <;> cases h
 exact eX (qDf _) fun n=>by kernel_rfl
def qcN:EnvP:=eQ [(222,s_z222)] 49 (some [2]) (fun x=>if x=4 then some [3,4,5,8,9,10] else if x=8 then some [3,4,5,8,9,10] else none) (fun x=>if x=0 then some [3,4,5] else if x=1 then some [3,4,5,8,9,10] else if x=2 then some [3,4,5,8,9,10] else if x=3 then some [3,4,5,8,9,10] else none) nP
def qjP:Code:=cO f182
def qKX:Array ResultVar:=f182.results
def qjQ (out3:LU) (held4:Int) (many5:Int) (s8:LU) (s9:Int) (s10:Int):Fr:=frOf [(3,(db out3 (some (3,5)))),(4,dc held4),(5,dc many5),(8,da s8),(9,dc s9),(10,dc s10)]
noncomputable def qnW (K:KT):=fun out3 held4 many5 s8 s9 s10=>K (.exit 2) (qjQ out3 held4 many5 s8 s9 s10)
def qHl (out3:LU) (held4:Int) (many5:Int):Fr:=frOf [(3,(db out3 (some (3,5)))),(4,dc held4),(5,dc many5)]
noncomputable def qjR (K:KT):=fun out3 held4 many5=>K (.exit 0) (qHl out3 held4 many5)
def qHm (n:Nat) (K:KT):KT:=qk 2 (qcN.cutb 2) (kSeq (evCP qcN (evLP qcN n) (sub qjP [1,1,1,0,1,0,0,1,1,0,0,1,1,1,1])) (qk 1 (qcN.cutb 1) (kSeq (evCP qcN (evLP qcN n) (sub qjP [1,1,1,0,1,0,0,1,1,1])) (kSeq (fun K fr=>evLP qcN n (sub qjP [1,1,1,0,1,0,0]) K (cutFP (qcN.cuts 4) fr)) K))))
def qHn (n:Nat):KT:=qk 0 (qcN.cutb 0) (kSeq (evCP qcN (evLP qcN n) (sub qjP [1,1,1,1])) (kFnP qcN qKX))
theorem qvF (K:KT) (n:Nat):(fun out3 held4 many5 s8 s9 s10=>evLP qcN n (sub qjP [1,1,1,0,1,0,0,1,1,0,0,1,1,1,0,0,0]) K (qjQ out3 held4 many5 s8 s9 s10))=qcv (qnW K) n:=by
 induction n
 kernel_rfl;rename_i n ih;show _=qqG (qnW K) (qcv (qnW K) n) n;rw[← ih];kernel_rfl
theorem qvG (K:KT) (n:Nat):(fun out3 held4 many5 s8 s9 s10=>evLP qcN n (sub qjP [1,1,1,0,1,0,0]) K (qjQ out3 held4 many5 s8 s9 s10))=qiM (qjR K) n:=by
 induction n
 kernel_rfl;rename_i n ih;funext out3 held4 many5 s8 s9 s10;show _=qcp (qjR K) (qiM (qjR K) n) n out3 held4 many5 s8 s9 s10;rw[← ih];unfold qcp;rw[(Eq.trans (by kernel_rfl) (qvF (qHm n K) n).symm:qcv (qdu (qjR K) (fun out3 held4 many5 s8 s9 s10=>evLP qcN n (sub qjP [1,1,1,0,1,0,0]) K (qjQ out3 held4 many5 s8 s9 s10)) n) n=_)];kernel_rfl
theorem qKY (n:Nat) (s0:LU) (o0:Lab):evFnP qcN n qjP qKX [db s0 o0]=qqH n s0:=by
 unfold qqH;rw[(Eq.trans (by kernel_rfl) (qvG (qHn n) n).symm:qiM (qeO n) n=_)];kernel_rfl
theorem qvH:gG 182 s_z182:=sQ (E:=qcN) (c:=qjP) rfl (fC qvE fN) func182 fun avs r h=>by
 unfold s_z182 at h;split at h
 ·obtain⟨hp,rfl⟩:=yj h;exact eX (qDh _ hp) fun n=>qKY n _ _
 ·cases h
end
end
end Go.Av
