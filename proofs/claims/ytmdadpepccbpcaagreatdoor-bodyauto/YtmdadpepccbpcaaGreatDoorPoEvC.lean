import Derived.Test.YtmdadpepccbpcaaGreatDoorPoEvB
import Derived.Test.YtmdadpepccbpcaaGreatDoorPoD
import Derived.Test.YtmdadpepccbpcaaGreatDoorAvE
import Derived.Test.YtmdadpepccbpcaaGreatDoorProg
import Derived.KernelRfl
namespace Go.Av
set_option linter.unusedSimpArgs false
set_option linter.unusedVariables false
section
open List (length)
noncomputable section
open Go.Proofs Go.Proofs.Tryz
set_option maxRecDepth 100000
set_option linter.unusedVariables false
theorem qFU:gG 29 s_z29:=sZ [(55,s_z55),(56,s_z56),(57,s_z57),(58,s_z58),(59,s_z59)] 24 (some [1000004]) nC (fun x=>if x=0 then some [1] else none) nP (fC qFL (fC qFO (fC qFQ (fC qFT (fC qtz fN))))) func29 fun avs r h=>by
 unfold s_z29 at h;split at h
 ·obtain⟨hp,rfl⟩:=yj h;exact eX (qPL _ _ hp)
 ·cases h
theorem qlV:gG 12 s_z12:=sZ [(27,s_z27),(28,s_z28),(29,s_z29)] 19 (some [6]) nC (fun x=>if x=0 then some [1,2] else none) nP (fC qFG (fC qFI (fC qFU fN))) func12 fun avs r h=>by
 unfold s_z12 at h;split at h
 ·obtain⟨hp,rfl⟩:=yj h;exact eX (qPc _ _ _ hp)
 ·cases h
theorem qFV:gG 78 s_z78:=sY [] 5 (some [2]) fN func78 fun avs r h=>by
 unfold s_z78 at h;split at h <;> cases h
 exact eX (qOL _)
def qzJ:EnvP:=eQ [(143,s_z143),(192,s_z192),(193,s_z193)] 35 (some [4]) (fun x=>if x=6 then some [0,1,5] else none) (fun x=>if x=0 then some [4] else if x=1 then some [0,1,5] else none) nP
def qNP:Code:=cO f139
def qSF:Array ResultVar:=f139.results
noncomputable def qqO (K:KT):=fun s4=>K .ret (frOf [(4,dc s4)])
def qNQ (s0:LU) (sep1:LU) (n5:Int):Fr:=frOf [(0,da s0),(1,da sep1),(5,dc n5)]
theorem qzK (K:KT) (n:Nat):(fun s0 sep1 n5=>evLP qzJ n (sub qNP [1,1,1,1,0,0]) K (qNQ s0 sep1 n5))=qkD (qqO K) n:=by
 induction n
 kernel_rfl;rename_i n ih;show _=qid (qqO K) (qkD (qqO K) n) n;rw[← ih];kernel_rfl
theorem qSG (n:Nat) (s0:LU) (o0:Lab) (sep1:LU) (o1:Lab):evFnP qzJ n qNP qSF [db s0 o0,db sep1 o1]=quh n s0 sep1:=by
 unfold quh;rw[(Eq.trans (by kernel_rfl) (qzK (qf 0 (qzJ.cutb 0) (kFnP qzJ qSF)) n).symm:qkD qKR n=_)];kernel_rfl
theorem qov:gG 139 s_z139:=sQ (E:=qzJ) (c:=qNP) rfl (fC qoj (fC qyI (fC qyH fN))) func139 fun avs r h=>by
 unfold s_z139 at h;split at h
 ·obtain⟨hp,rfl⟩:=yj h;exact eX (qKc _ _ hp) fun n=>qSG n _ _ _ _
 ·cases h
def qSH:EnvP:=eQ [(139,s_z139)] 8 (some [3,9]) nC nC nP
def qWz:Code:=cO f140
def qWA:Array ResultVar:=f140.results
theorem qSI (n:Nat) (c0:UInt8) (o0:Lab) (x1:LU):evFnM qSH n qWz qWA [dp c0 o0,.pbox (.leaf (.sl .byte)) x1 none]=qBW n c0 x1:=by
 kernel_rfl
theorem qzL:qkb G prog 140 s_z140:=sM (E:=qSH) (fun w S hg=>⟨⟨(qF (qov w S hg) qaE),fun f sp h=>qaD f sp h w S⟩,qaO w S hg,(fun _ _ h=>by cases h),(fun f sp h=>qbt f sp h),(fun f it h=>qbu f it h),(fun t kt vt h=>qaR t kt vt h)⟩) func140 fun avs r h=>by
 unfold s_z140 at h;split at h
 ·obtain⟨hp,rfl⟩:=yj h;obtain⟨n,hn⟩:=qHA _ _ hp;exact⟨n,(qSI n _ _ _).trans hn⟩
 ·cases h
def E_z79:EnvP:=⟨⟨tiOf tis,fnsOf [(139,s_z139)],cnsOf [],[],18,(fun _=>none),(fun _=>none),some [2]⟩,(fun x=>if x=1 then some (.leaf (.sl .byte)) else none),fun _=>none,fun _=>[],(fun x=>if x=140 then some s_z140 else none),fun _=>none,fun _=>none,fun _=>none⟩
def C_z79:Code:=cO f79
def R_z79:Array ResultVar:=f79.results
theorem qWB (n:Nat) (s0:LU) (o0:Lab):evFnP E_z79 n C_z79 R_z79 [db s0 o0]=qPj n s0:=by
 kernel_rfl
theorem qFW:gG 79 s_z79:=sG (E:=E_z79) (fun w S hg=>⟨⟨(qF (qov w S hg) qaE),fun f sp h=>qaD f sp h w S⟩,qaO w S hg,(fun f sp h=>(qgc (qzL w S hg) qnp) f sp h),(fun f sp h=>qbt f sp h),(fun f it h=>qbu f it h),(fun t kt vt h=>qaR t kt vt h)⟩) func79 fun avs r h=>by
 unfold s_z79 at h;split at h
 ·obtain⟨hp,rfl⟩:=yj h;exact eX (qON _ hp) fun n=>qWB n _ _
 ·cases h
theorem qFX:gG 82 s_z82:=sY [(143,s_z143)] 23 (some [4,1000005,6]) (fC qoj fN) func82 fun avs r h=>by
 unfold s_z82 at h;split at h
 ·obtain⟨hp,rfl⟩:=yj h;exact eX (qPO _ _ hp)
 ·cases h
def qqP:EnvP:=eQ [(82,s_z82),(153,s_z153)] 25 (some [2]) (fun x=>if x=2 then some [0,3] else none) (fun x=>if x=0 then some [3] else if x=1 then some [0,3] else none) nP
def qFY:Code:=cO f142
def qSJ:Array ResultVar:=f142.results
noncomputable def qqQ (K:KT):=fun out3=>K (.exit 0) (frOf [(3,(.dat (.sl (.sl .byte)) out3 (some (3,24))))])
def qNR (n:Nat):KT:=qf 0 (qqP.cutb 0) (kSeq (evCP qqP (evLP qqP n) (sub qFY [1,1,1])) (kFnP qqP qSJ))
def qNS (s0:LU) (out3:List LU):Fr:=frOf [(0,da s0),(3,(.dat (.sl (.sl .byte)) out3 (some (3,24))))]
theorem qzM (K:KT) (n:Nat):(fun s0 out3=>evLP qqP n (sub qFY [1,1,0,0,0]) K (qNS s0 out3))=qhw (qqQ K) n:=by
 induction n
 kernel_rfl;rename_i n ih;show _=qie (qqQ K) (qhw (qqQ K) n) n;rw[← ih];kernel_rfl
theorem qSK (n:Nat) (s0:LU) (o0:Lab):evFnP qqP n qFY qSJ [db s0 o0]=quj n s0:=by
 unfold quj;rw[(Eq.trans (by kernel_rfl) (qzM (qNR n) n).symm:qhw (qui n) n=_)];kernel_rfl
theorem qzN:gG 142 s_z142:=sQ (E:=qqP) (c:=qFY) rfl (fC qFX (fC qiX fN)) func142 fun avs r h=>by
 unfold s_z142 at h;split at h
 ·obtain⟨hp,rfl⟩:=yj h;exact eX (qHy _ hp) fun n=>qSK n _ _
 ·cases h
def E_z81:EnvP:=eQ [(142,s_z142)] 19 (some [2]) (fun x=>if x=3 then some [3,7,8,9] else none) (fun x=>if x=0 then some [3] else if x=1 then some [3,7,8,9] else none) nP
def C_z81:Code:=cO f81
def R_z81:Array ResultVar:=f81.results
noncomputable def qzO (K:KT):=fun n3=>K (.exit 0) (frOf [(3,dc n3)])
def qSL (n:Nat):KT:=qf 0 (E_z81.cutb 0) (kSeq (evCP E_z81 (evLP E_z81 n) (sub C_z81 [1,1,1])) (kFnP E_z81 R_z81))
def qSM (n3:Int) (s7:List LU) (s8:Int) (s9:Int):Fr:=frOf [(3,dc n3),(7,(.dat (.sl (.sl .byte)) s7 (some (7,24)))),(8,dc s8),(9,dc s9)]
theorem qFZ (K:KT) (n:Nat):(fun n3 s7 s8 s9=>evLP E_z81 n (sub C_z81 [1,1,0,1,0,0]) K (qSM n3 s7 s8 s9))=qoX (qzO K) n:=by
 induction n
 kernel_rfl;rename_i n ih;show _=qgE (qzO K) (qoX (qzO K) n) n;rw[← ih];kernel_rfl
theorem qWC (n:Nat) (s0:LU) (o0:Lab):evFnP E_z81 n C_z81 R_z81 [db s0 o0]=qHO n s0:=by
 unfold qHO;rw[(Eq.trans (by kernel_rfl) (qFZ (qSL n) n).symm:qoX (qrN n) n=_)];kernel_rfl
theorem qGa:gG 81 s_z81:=sQ (E:=E_z81) (c:=C_z81) rfl (fC qzN fN) func81 fun avs r h=>by
 unfold s_z81 at h;split at h
 ·obtain⟨hp,rfl⟩:=yj h;exact eX (qOK _ hp) fun n=>qWC n _ _
 ·cases h
def E_z37:EnvP:=eQ [(78,s_z78),(79,s_z79),(80,s_z80),(81,s_z81)] 43 (some [4]) (fun x=>if x=4 then some [0,1,5,6,9,10,11] else none) (fun x=>if x=0 then some [0,1,6] else if x=1 then some [0,1,5,6,9,10,11] else if x=2 then some [] else none) nP
def C_z37:Code:=cO f37
def R_z37:Array ResultVar:=f37.results
noncomputable def X_z78 (K:KT):=fun s0 most1 above6=>K (.exit 0) (frOf [(0,da s0),(1,dc most1),(6,dg above6)])
def qSN (n:Nat):KT:=qf 0 (E_z37.cutb 0) (kSeq (evCP E_z37 (evLP E_z37 n) (sub C_z37 [1,1,1,1])) (kFnP E_z37 R_z37))
def qSO (s0:LU) (most1:Int) (above6:Bool) (s9:LU) (s10:Int) (s11:Int):Fr:=frOf [(0,da s0),(1,dc most1),(5,(.fn 78 [])),(6,dg above6),(9,da s9),(10,dc s10),(11,dc s11)]
theorem qGb (K:KT) (n:Nat):(fun s0 most1 above6 s9 s10 s11=>evLP E_z37 n (sub C_z37 [1,1,1,0,1,0,0]) K (qSO s0 most1 above6 s9 s10 s11))=qoY (X_z78 K) n:=by
 induction n
 kernel_rfl;rename_i n ih;show _=qgF (X_z78 K) (qoY (X_z78 K) n) n;rw[← ih];kernel_rfl
theorem qWD (n:Nat) (s0:LU) (o0:Lab) (most1:Int) (o1:Lab):evFnP E_z37 n C_z37 R_z37 [db s0 o0,de most1 o1]=qPk n s0 most1:=by
 unfold qPk;rw[(Eq.trans (by kernel_rfl) (qGb (qSN n) n).symm:qoY (qmn n) n=_)];kernel_rfl
theorem qGc:gG 37 s_z37:=sQ (E:=E_z37) (c:=C_z37) rfl (fC qFV (fC qFW (fC qFy (fC qGa fN)))) func37 fun avs r h=>by
 unfold s_z37 at h;split at h
 ·obtain⟨hp,rfl⟩:=yj h;exact eX (qOP _ _ hp) fun n=>qWD n _ _ _ _
 ·cases h
theorem qGd:gG 60 s_z60:=sY [(37,s_z37)] 7 (some [2,3]) (fC qGc fN) func60 fun avs r h=>by
 unfold s_z60 at h;split at h
 ·obtain⟨hp,rfl⟩:=yj h;exact eX (qOW _ hp)
 ·cases h
def qSP:EnvP:=eQ [] 25 (some [25]) nC nC (fun x=>if x=11 then some (.osl 5 .byte) else if x=19 then some (.osl 5 .byte) else none)
def qWE:Code:=cO f121
def qWF:Array ResultVar:=f121.results
theorem qSQ (n:Nat) (p0:LU×(Int×Unit)) (soft1:Bool) (o1:Lab):evFnM qSP n qWE qWF [.pbox (.ppair (.osl 5 .byte) (.ppair (.leaf (.int .i64)) (.leaf .unit))) p0 none,dh soft1 o1]=qBZ n p0 soft1:=by
 kernel_rfl
theorem qow:qkb G prog 121 s_z121:=sM (E:=qSP) (fun w S hg=>⟨⟨qaE,fun f sp h=>qaD f sp h w S⟩,qaO w S hg,(fun _ _ h=>by cases h),(fun f sp h=>qbt f sp h),(fun f it h=>qbu f it h),(fun t kt vt h=>qaR t kt vt h)⟩) func121 fun avs r h=>by
 unfold s_z121 at h;split at h
 ·obtain⟨hp,rfl⟩:=yj h;obtain⟨n,hn⟩:=qKa _ _ hp;exact⟨n,(qSQ n _ _ _).trans hn⟩
 ·cases h
def qSR:EnvP:=⟨⟨tiOf tis,fnsOf [],cnsOf [],[],32,(fun _=>none),(fun _=>none),some [32]⟩,(fun x=>if x=20 then some (.osl 5 .byte) else none),fun _=>none,fun _=>[],(fun x=>if x=121 then some s_z121 else none),fun _=>none,fun _=>none,fun _=>none⟩
def qWG:Code:=cO f119
def qWH:Array ResultVar:=f119.results
theorem qSS (n:Nat) (p0:LU×(Int×Unit)) (u1:LU) (o1:Lab):evFnM qSR n qWG qWH [.pbox (.ppair (.osl 5 .byte) (.ppair (.leaf (.int .i64)) (.leaf .unit))) p0 none,db u1 o1]=qCa n p0 u1:=by
 kernel_rfl
theorem qzP:qkb G prog 119 s_z119:=sM (E:=qSR) (fun w S hg=>⟨⟨qaE,fun f sp h=>qaD f sp h w S⟩,qaO w S hg,(fun f sp h=>(qgc (qow w S hg) qnp) f sp h),(fun f sp h=>qbt f sp h),(fun f it h=>qbu f it h),(fun t kt vt h=>qaR t kt vt h)⟩) func119 fun avs r h=>by
 unfold s_z119 at h;split at h
 ·obtain⟨hp,rfl⟩:=yj h;obtain⟨n,hn⟩:=qKb _ _ hp;exact⟨n,(qSS n _ _ _).trans hn⟩
 ·cases h
theorem qzQ:gG 120 s_z120:=sZ [] 45 (some [4]) nC (fun x=>if x=0 then some [] else none) nP fN func120 fun avs r h=>by
 unfold s_z120 at h;split at h
 ·obtain⟨hp,rfl⟩:=yj h;exact eX (qJY _ _ hp)
 ·cases h
theorem qzR:gG 239 s_z239:=sY [] 6 (some [2]) fN func239 fun avs r h=>by
 unfold s_z239 at h;split at h
 ·obtain⟨hp,rfl⟩:=yj h;exact eX (qJa _ hp)
 ·cases h
theorem qzS:gG 219 s_z219:=sY [(239,s_z239)] 11 (some [2]) (fC qzR fN) func219 fun avs r h=>by
 unfold s_z219 at h;split at h <;> cases h
 exact eX (qJc _)
theorem qzT:gG 179 s_z179:=sY [(153,s_z153),(219,s_z219)] 15 (some [6]) (fC qiX (fC qzS fN)) func179 fun avs r h=>by
 unfold s_z179 at h;split at h
 ·obtain⟨hp,rfl⟩:=yj h;exact eX (qJd _ _ _ hp)
 ·cases h
theorem qzU:gG 122 s_z122:=sY [(144,s_z144),(179,s_z179)] 23 (some [4]) (fC qoo (fC qzT fN)) func122 fun avs r h=>by
 unfold s_z122 at h;split at h <;> cases h
 exact eX (qJX _ _)
def E_z62:EnvP:=⟨⟨tiOf tis,fnsOf [(120,s_z120),(122,s_z122)],cnsOf [],[],50,(fun x=>if x=4 then some [0,3,4,5] else none),(fun x=>if x=0 then some [3] else if x=1 then some [0,3,4,5] else none),some [2]⟩,(fun x=>if x=7 then some (.ppair (.osl 5 .byte) (.ppair (.leaf (.int .i64)) (.leaf .unit))) else if x=8 then some (.ppair (.osl 5 .byte) (.ppair (.leaf (.int .i64)) (.leaf .unit))) else none),fun _=>none,fun _=>[],(fun x=>if x=119 then some s_z119 else if x=121 then some s_z121 else none),fun _=>none,fun _=>none,fun _=>none⟩
def C_z62:Code:=cO f62
def R_z62:Array ResultVar:=f62.results
noncomputable def qzV (K:KT):=fun p3=>K (.exit 0) (frOf [(3,(.pbox (.ppair (.osl 5 .byte) (.ppair (.leaf (.int .i64)) (.leaf .unit))) p3 none))])
def qST (n:Nat):KT:=qf 0 (E_z62.cutb 0) (kSeq (evCP E_z62 (evLP E_z62 n) (sub C_z62 [1,1,1,1])) (kFnP E_z62 R_z62))
def qSU (s0:LU) (p3:LU×(Int×Unit)) (at5:Int):Fr:=frOf [(0,da s0),(3,(.pbox (.ppair (.osl 5 .byte) (.ppair (.leaf (.int .i64)) (.leaf .unit))) p3 none)),(4,(.padr 3 [.clo 119 true])),(5,dc at5)]
theorem qGe (K:KT) (n:Nat):(fun s0 p3 at5=>evLP E_z62 n (sub C_z62 [1,1,1,0,1,0,0]) K (qSU s0 p3 at5))=qww (qzV K) n:=by
 induction n
 kernel_rfl;rename_i n ih;show _=qdN (qzV K) (qww (qzV K) n) n;rw[← ih];kernel_rfl
theorem qWI (n:Nat) (s0:LU) (o0:Lab):evFnP E_z62 n C_z62 R_z62 [db s0 o0]=qHP n s0:=by
 unfold qHP;rw[(Eq.trans (by kernel_rfl) (qGe (qST n) n).symm:qww (qmo n) n=_)];kernel_rfl
theorem qGf:gG 62 s_z62:=sG (E:=E_z62) (fun w S hg=>⟨⟨(qF (qzQ w S hg) (qF (qzU w S hg) qaE)),fun f sp h=>qaD f sp h w S⟩,qaO w S hg,(fun f sp h=>(qgc (qzP w S hg) (qgc (qow w S hg) qnp)) f sp h),(fun f sp h=>qbt f sp h),(fun f it h=>qbu f it h),(fun t kt vt h=>qaR t kt vt h)⟩) func62 fun avs r h=>by
 unfold s_z62 at h;split at h
 ·obtain⟨hp,rfl⟩:=yj h;exact eX (qQB _ hp) fun n=>qWI n _ _
 ·cases h
theorem qGg:gG 61 s_z61:=sY [(62,s_z62)] 6 (some [2,3]) (fC qGf fN) func61 fun avs r h=>by
 unfold s_z61 at h;split at h
 ·obtain⟨hp,rfl⟩:=yj h;exact eX (qOX _ hp)
 ·cases h
theorem qzW:gG 222 s_z222:=sY [] 6 (some [2]) fN func222 fun avs r h=>by
 unfold s_z222 at h;split at h <;> cases h
 exact eX (qJF _)
def qdC:EnvP:=eQ [(222,s_z222)] 49 (some [2]) (fun x=>if x=4 then some [3,4,5,8,9,10] else if x=8 then some [3,4,5,8,9,10] else none) (fun x=>if x=0 then some [3,4,5] else if x=1 then some [3,4,5,8,9,10] else if x=2 then some [3,4,5,8,9,10] else if x=3 then some [3,4,5,8,9,10] else none) nP
def qlW:Code:=cO f182
def qSV:Array ResultVar:=f182.results
def qlX (out3:LU) (held4:Int) (many5:Int) (s8:LU) (s9:Int) (s10:Int):Fr:=frOf [(3,(db out3 (some (3,5)))),(4,dc held4),(5,dc many5),(8,da s8),(9,dc s9),(10,dc s10)]
noncomputable def qqR (K:KT):=fun out3 held4 many5 s8 s9 s10=>K (.exit 2) (qlX out3 held4 many5 s8 s9 s10)
def qNT (out3:LU) (held4:Int) (many5:Int):Fr:=frOf [(3,(db out3 (some (3,5)))),(4,dc held4),(5,dc many5)]
noncomputable def qlY (K:KT):=fun out3 held4 many5=>K (.exit 0) (qNT out3 held4 many5)
def qNU (n:Nat) (K:KT):KT:=qf 2 (qdC.cutb 2) (kSeq (evCP qdC (evLP qdC n) (sub qlW [1,1,1,0,1,0,0,1,1,0,0,1,1,1,1])) (qf 1 (qdC.cutb 1) (kSeq (evCP qdC (evLP qdC n) (sub qlW [1,1,1,0,1,0,0,1,1,1])) (kSeq (fun K fr=>evLP qdC n (sub qlW [1,1,1,0,1,0,0]) K (cutFP (qdC.cuts 4) fr)) K))))
def qNV (n:Nat):KT:=qf 0 (qdC.cutb 0) (kSeq (evCP qdC (evLP qdC n) (sub qlW [1,1,1,1])) (kFnP qdC qSV))
theorem qzX (K:KT) (n:Nat):(fun out3 held4 many5 s8 s9 s10=>evLP qdC n (sub qlW [1,1,1,0,1,0,0,1,1,0,0,1,1,1,0,0,0]) K (qlX out3 held4 many5 s8 s9 s10))=qdl (qqR K) n:=by
 induction n
 kernel_rfl;rename_i n ih;show _=quk (qqR K) (qdl (qqR K) n) n;rw[← ih];kernel_rfl
theorem qzY (K:KT) (n:Nat):(fun out3 held4 many5 s8 s9 s10=>evLP qdC n (sub qlW [1,1,1,0,1,0,0]) K (qlX out3 held4 many5 s8 s9 s10))=qkE (qlY K) n:=by
 induction n
 kernel_rfl;rename_i n ih;funext out3 held4 many5 s8 s9 s10;show _=qcZ (qlY K) (qkE (qlY K) n) n out3 held4 many5 s8 s9 s10;rw[← ih];unfold qcZ;rw[(Eq.trans (by kernel_rfl) (qzX (qNU n K) n).symm:qdl (qei (qlY K) (fun out3 held4 many5 s8 s9 s10=>evLP qdC n (sub qlW [1,1,1,0,1,0,0]) K (qlX out3 held4 many5 s8 s9 s10)) n) n=_)];kernel_rfl
theorem qSW (n:Nat) (s0:LU) (o0:Lab):evFnP qdC n qlW qSV [db s0 o0]=qul n s0:=by
 unfold qul;rw[(Eq.trans (by kernel_rfl) (qzY (qNV n) n).symm:qkE (qfS n) n=_)];kernel_rfl
theorem qzZ:gG 182 s_z182:=sQ (E:=qdC) (c:=qlW) rfl (fC qzW fN) func182 fun avs r h=>by
 unfold s_z182 at h;split at h
 ·obtain⟨hp,rfl⟩:=yj h;exact eX (qJH _ hp) fun n=>qSW n _ _
 ·cases h
theorem qAa:gG 123 s_z123:=fun w S hg vals avs r h hS ha=>by
 unfold s_z123 at h;split at h
 ·rename_i s o;simp only[yb] at h;obtain⟨hp,rfl⟩:=h;obtain⟨u,rfl,h1⟩:=args1 ha;obtain⟨A,cap,rfl,hcap,hA,hcA⟩:=qgy h1;have hent:(callFunc 123 #[.slice A (length s) cap]).run prog w=.ok (.enter 123 #[.slice A (length s) cap]) w:=enters_of (c:=f123.body.getD .skip) func123 (by kernel_rfl) (by kernel_rfl) _ _;refine .inl ⟨hent,(Go.Proofs.lay_walk (S:=S) (qb hp) ?_).mono ?_⟩
  ·intro w' hb;have hk:Keeps w S w' S:=fun b o hs=>⟨hs,qk (hb.block b (hS b o hs)) o⟩;have hS':∀ b o,S b o→b < w'.heap.size:=fun b o hs=>yH (hS b o hs) hb.size;rcases qzZ w' S (G_stays w S w' S hk hg) [.slice A (length s) cap] [db s none] _ (show s_z182 _=(true,_) from Prod.ext hp rfl) hS' (qkn ((h1.keeps hk).relab none) (qnq _ _)) with ⟨_,h2⟩ | ⟨v,w2,h2,_⟩
   ·refine h2.mono fun e w2 ⟨v,he,S2,g2,hr⟩=>?_;obtain⟨A',cap',rfl,_,hA',hc'⟩:=qgy hr.rd;refine⟨A',cap',he,g2.below,hA',fun ad ha' i x hx=>?_⟩;have hi:=(List.getElem?_eq_some_iff.1 hx).1;have hx':(z182 s)[i]? = some x:=hx;have:=hc' ad ha' i hi;rw[yY,List.getElem?_map,hx'] at this;exact this
   ·exfalso;have:(callFunc 182 #[.slice A (length s) cap]).run prog w'=.ok (.enter 182 #[.slice A (length s) cap]) w':=enters_of (c:=f182.body.getD .skip) func182 (by kernel_rfl) (by kernel_rfl) _ _;rw[this] at h2;cases h2
  ·rintro e w' ⟨v,rfl,hf,hb⟩;exact⟨v,rfl,Go.Proofs.res_fresh hS hb hf⟩
 ·cases h
def E_z64:EnvP:=eQ [(123,s_z123)] 24 (some [2]) (fun x=>if x=3 then some [3,4] else none) (fun x=>if x=0 then some [4] else if x=1 then some [3,4] else none) nP
def C_z64:Code:=cO f64
def R_z64:Array ResultVar:=f64.results
noncomputable def qAb (K:KT):=fun out4=>K (.exit 0) (frOf [(4,(db out4 (some (4,5))))])
def qSX (n:Nat):KT:=qf 0 (E_z64.cutb 0) (kSeq (evCP E_z64 (evLP E_z64 n) (sub C_z64 [1,1,1,1])) (kFnP E_z64 R_z64))
def qSY (code3:LU) (out4:LU):Fr:=frOf [(3,da code3),(4,(db out4 (some (4,5))))]
theorem qGh (K:KT) (n:Nat):(fun code3 out4=>evLP E_z64 n (sub C_z64 [1,1,1,0,0,0]) K (qSY code3 out4))=qrQ (qAb K) n:=by
 induction n
 kernel_rfl;rename_i n ih;show _=qmp (qAb K) (qrQ (qAb K) n) n;rw[← ih];kernel_rfl
theorem qWJ (n:Nat) (s0:LU) (o0:Lab):evFnP E_z64 n C_z64 R_z64 [db s0 o0]=qHQ n s0:=by
 unfold qHQ;rw[(Eq.trans (by kernel_rfl) (qGh (qSX n) n).symm:qrQ (qrR n) n=_)];kernel_rfl
theorem qGi:gG 64 s_z64:=sQ (E:=E_z64) (c:=C_z64) rfl (fC qAa fN) func64 fun avs r h=>by
 unfold s_z64 at h;split at h
 ·obtain⟨hp,rfl⟩:=yj h;exact eX (qOS _ hp) fun n=>qWJ n _ _
 ·cases h
theorem qGj:gG 63 s_z63:=sY [(64,s_z64)] 6 (some [2,3]) (fC qGi fN) func63 fun avs r h=>by
 unfold s_z63 at h;split at h
 ·obtain⟨hp,rfl⟩:=yj h;exact eX (qOY _ hp)
 ·cases h
def E_z30:EnvP:=eQ [] 11 (some [2,3]) nC (fun x=>if x=0 then some [] else none) nP
def C_z30:Code:=cO f30
def R_z30:Array ResultVar:=f30.results
theorem qWK (n:Nat) (coding0:Int) (o0:Lab):evFnP E_z30 n C_z30 R_z30 [de coding0 o0]=qPl n coding0:=by
 kernel_rfl
theorem qGk:gG 30 s_z30:=by
 refine qip G_stays (E:=E_z30) (fn:=f30) (c:=C_z30) (qT rfl qoh) (fun w S hg=>⟨⟨qaE,fun f sp h=>qaD f sp h w S⟩,qaO w S hg,(fun _ _ h=>by cases h),(fun _ _ h=>by cases h),(fun _ _ h=>by cases h),(fun _ _ _ h=>by cases h)⟩) follows func30 (by kernel_rfl) (by kernel_rfl) (by kernel_rfl) ?_;intro avs r h;unfold s_z30 at h;split at h <;> cases h
 obtain⟨n,r,hn,hp⟩:=qOZ _;exact⟨n,r,(qWK n _ _).trans hn,hp⟩
theorem qtA:gG 65 s_z65:=sZ [] 13 (some [2]) nC (fun x=>if x=0 then some [] else none) nP fN func65 fun avs r h=>by
 unfold s_z65 at h;split at h <;> cases h
 exact eX (qPV _)
theorem qox:gG 158 s_z158:=sY [] 6 (some [2]) fN func158 fun avs r h=>by
 unfold s_z158 at h;split at h <;> cases h
 exact eX (qJw _)
def qqS:EnvP:=eQ [(176,s_z176)] 31 (some [2,3]) (fun x=>if x=2 then some [0,6,7] else none) (fun x=>if x=0 then some [0] else if x=1 then some [0,6,7] else if x=2 then some [0,6,7] else none) nP
def qGl:Code:=cO f127
def qSZ:Array ResultVar:=f127.results
noncomputable def qqT (K:KT):=fun s2 s3=>K .ret (frOf [(2,dn s2),(3,dg s3)])
noncomputable def qqU (K:KT):=fun c0=>K (.exit 0) (frOf [(0,di c0)])
def qNW (n:Nat):KT:=qf 0 (qqS.cutb 0) (kSeq (evCP qqS (evLP qqS n) (sub qGl [1,1])) (kFnP qqS qSZ))
def qNX (c0:Int) (s6:List (UInt8×(Int×Unit))) (s7:Int):Fr:=frOf [(0,di c0),(6,(.dat (.arr 8 (.pair .byte (.pair (.int .i32) .unit))) s6 none)),(7,dc s7)]
theorem qAc (K:KT) (n:Nat):(fun c0 s6 s7=>evLP qqS n (sub qGl [1,0,1,0,0]) K (qNX c0 s6 s7))=qoZ (qqT K) (qqU K) n:=by
 induction n
 kernel_rfl;rename_i n ih;show _=qum (qqT K) (qqU K) (qoZ (qqT K) (qqU K) n) n;rw[← ih];kernel_rfl
theorem qTa (n:Nat) (c0:Int) (o0:Lab):evFnP qqS n qGl qSZ [dm c0 o0]=qCh n c0:=by
 unfold qCh;rw[(Eq.trans (by kernel_rfl) (qAc (qNW n) n).symm:qoZ qmj (qif n) n=_)];kernel_rfl
theorem qoy:gG 127 s_z127:=sQ (E:=qqS) (c:=qGl) rfl (fC qop fN) func127 fun avs r h=>by
 unfold s_z127 at h;split at h <;> cases h
 exact eX (qJs _) fun n=>qTa n _ _
end
end
end Go.Av
