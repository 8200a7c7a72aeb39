import Derived.Test.YtmdadpepccbpcaaGreatDoorPoEvA
import Derived.Test.YtmdadpepccbpcaaGreatDoorPoD
import Derived.Test.YtmdadpepccbpcaaGreatDoorAvE
import Derived.Test.YtmdadpepccbpcaaGreatDoorProg
import Derived.KernelRfl
namespace Go.Av
set_option linter.unusedSimpArgs false
set_option linter.unusedVariables false
section
noncomputable section
open Go.Proofs Go.Proofs.Tryz
set_option maxRecDepth 100000
set_option linter.unusedVariables false
theorem qzl:gG 145 s_z145:=sY [(199,s_z199)] 38 (some [6,7]) (fC qzk fN) func145 fun avs r h=>by
 unfold s_z145 at h;split at h
 ·obtain⟨hp,rfl⟩:=yj h;exact eX (qIO _ _ _ hp)
 ·cases h
def qqD:EnvP:=eQ [(145,s_z145)] 44 (some [2,3]) (fun x=>if x=4 then some [0,4,5,6] else none) (fun x=>if x=0 then some [4,5] else if x=1 then some [0,4,5,6] else none) (fun x=>if x=3 then some (.leaf (.int .i64)) else none)
def qFE:Code:=cO f112
def qSd:Array ResultVar:=f112.results
noncomputable def qqE (K:KT):=fun out4 strange5=>K (.exit 0) (frOf [(4,(db out4 (some (4,5)))),(5,dc strange5)])
def qND (n:Nat):KT:=qf 0 (qqD.cutb 0) (kSeq (evCP qqD (evLP qqD n) (sub qFE [1,1,1,1])) (kFnP qqD qSd))
def qNE (l0:LU) (out4:LU) (strange5:Int) (at6:Int):Fr:=frOf [(0,da l0),(4,(db out4 (some (4,5)))),(5,dc strange5),(6,dc at6)]
theorem qzm (K:KT) (n:Nat):(fun l0 out4 strange5 at6=>evLP qqD n (sub qFE [1,1,1,0,1,0,0]) K (qNE l0 out4 strange5 at6))=qkB (qqE K) n:=by
 induction n
 kernel_rfl;rename_i n ih;show _=qeg (qqE K) (qkB (qqE K) n) n;rw[← ih];kernel_rfl
theorem qSe (n:Nat) (l0:LU) (o0:Lab):evFnP qqD n qFE qSd [db l0 o0]=qtZ n l0:=by
 unfold qtZ;rw[(Eq.trans (by kernel_rfl) (qzm (qND n) n).symm:qkB (qmk n) n=_)];kernel_rfl
theorem qzn:gG 112 s_z112:=sQ (E:=qqD) (c:=qFE) rfl (fC qzl fN) func112 fun avs r h=>by
 unfold s_z112 at h;split at h
 ·obtain⟨hp,rfl⟩:=yj h;exact eX (qKg _ hp) fun n=>qSe n _ _
 ·cases h
theorem qFF:gG 53 s_z53:=sY [(111,s_z111),(112,s_z112)] 19 (some [2,3]) (fC qzd (fC qzn fN)) func53 fun avs r h=>by
 unfold s_z53 at h;split at h
 ·obtain⟨hp,rfl⟩:=yj h;exact eX (qQD _ hp)
 ·cases h
def E_z27:EnvP:=⟨⟨tiOf tis,fnsOf [(53,s_z53)],cnsOf [],[],26,(fun x=>if x=2000005 then some [3] else none),(fun x=>if x=0 then some [3] else if x=1 then some [1029] else none),some [1000002]⟩,(fun x=>if x=3 then some (.osl 5 .byte) else if x=19 then some (.osl 5 .byte) else if x=24 then some (.osl 5 .byte) else none),fun _=>none,fun _=>[],fun _=>none,(fun x=>if x=52 then some s_z52 else none),(fun x=>if x=108 then some qKJ else none),fun _=>none⟩
def C_z27:Code:=cO f27
def R_z27:Array ResultVar:=f27.results
theorem qWn (n:Nat) (s0:LU) (o0:Lab):evFnP E_z27 n C_z27 R_z27 [db s0 o0]=qPg n s0:=by
 kernel_rfl
theorem qFG:gG 27 s_z27:=sG (E:=E_z27) (fun w S hg=>⟨⟨(qF (qFF w S hg) qaE),fun f sp h=>qaD f sp h w S⟩,qaO w S hg,(fun _ _ h=>by cases h),(fun f sp h=>(qwT (qFB w S hg) qbt) f sp h),(fun f it h=>(qwU (qyV w S hg) qbu) f it h),(fun t kt vt h=>qaR t kt vt h)⟩) func27 fun avs r h=>by
 unfold s_z27 at h;split at h
 ·obtain⟨hp,rfl⟩:=yj h;exact eX (qQG _ hp) fun n=>qWn n _ _
 ·cases h
theorem qzo:gG 175 s_z175:=sY [(216,s_z216)] 11 (some [2,3]) (fC qon fN) func175 fun avs r h=>by
 unfold s_z175 at h;split at h <;> cases h
 exact eX (qJO _)
def qzp:EnvP:=eQ [(175,s_z175)] 28 (some [28,29]) (fun x=>if x=1 then some [0,7,8,9,28,29] else none) (fun x=>if x=0 then some [28,29] else if x=1 then some [0,7,8,9,28,29] else none) nP
def qSf:Code:=cO f174
def qSg:Array ResultVar:=f174.results
def qNF (V:Sigma Inv) (x0:Den V.1) (x1:LU):KT:=qf 0 (qzp.cutb 0) (kFnM qzp qSg [.abs V.1 V.2 x0,.pbox (.leaf (.sl .byte)) x1 none])
def qNG (s7:LU) (s8:Int) (s9:Int) (V:Sigma Inv) (xv:Den V.1) (s29:LU):Fr:=frOf [(0,(.padr 28 [])),(7,da s7),(8,dc s8),(9,dc s9),(28,(.abs V.1 V.2 xv)),(29,(.pbox (.leaf (.sl .byte)) s29 none))]
def qgw (V:Sigma Inv) (xv:Den V.1) (s29:LU):Fr:=frOf [(28,(.abs V.1 V.2 xv)),(29,(.pbox (.leaf (.sl .byte)) s29 none))]
theorem qzq (V:Sigma Inv) (K:KT) (n:Nat):(fun s7 s8 s9 xv s29=>evLP qzp n (sub qSf [1,0,0]) K (qNG s7 s8 s9 V xv s29))=(qhv V) (fun xv s29=>K .ret (qgw V xv s29)) (fun xv s29=>K (.exit 0) (qgw V xv s29)) n:=by
 induction n
 kernel_rfl;rename_i n ih;show _=(qeh V) (fun xv s29=>K .ret (qgw V xv s29)) (fun xv s29=>K (.exit 0) (qgw V xv s29)) ((qhv V) (fun xv s29=>K .ret (qgw V xv s29)) (fun xv s29=>K (.exit 0) (qgw V xv s29)) n) n;rw[← ih];kernel_rfl
theorem qSh (V:Sigma Inv) (n:Nat) (x0:Den V.1) (x1:LU):evFnM qzp n qSf qSg [.abs V.1 V.2 x0,.pbox (.leaf (.sl .byte)) x1 none]=(qua V) n x0 x1:=by
 unfold qua;rw[(Eq.trans (by kernel_rfl) ((qzq V) (qNF V x0 x1) n).symm:(qhv V) (qji V) ((qfN V) n) n=_)];kernel_rfl
theorem qvU:qkb G prog 174 s_z174:=sM (E:=qzp) (fun w S hg=>⟨⟨(qF (qzo w S hg) qaE),fun f sp h=>qaD f sp h w S⟩,qaO w S hg,(fun _ _ h=>by cases h),(fun f sp h=>qbt f sp h),(fun f it h=>qbu f it h),(fun t kt vt h=>qaR t kt vt h)⟩) func174 fun avs r h=>by
 unfold s_z174 at h;split at h
 ·rename_i s V x _;simp only[yb] at h;obtain⟨hp,rfl⟩:=h;obtain⟨n,hn⟩:=qJP ⟨s,V⟩ _ _ hp;exact⟨n,(qSh ⟨s,V⟩ n _ _).trans hn⟩
 ·cases h
theorem qzr:qML G prog 174 qKK:=qkm qvU (enters_of func174 (by kernel_rfl) rfl) (fun s V x x' y h=>by
 obtain⟨h1,h2⟩:=yj h;subst h2;refine⟨_,_,Prod.ext h1 rfl⟩)
def qSi:EnvP:=eQ [] 4 (none) nC nC (fun x=>if x=1 then some (.leaf (.sl .byte)) else none)
def qSj:Code:=cO f113
def qWo:Array ResultVar:=f113.results
theorem qSk (n:Nat) (s0:LU) (o0:Lab):evFnR qSi n qSj qWo [db s0 o0]=qUJ n s0:=by
 kernel_rfl
theorem qzs:qMK G prog 113 s_z113:=by
 refine qir G_stays (E:=qSi) (fn:=f113) (c:=qSj) (qT rfl qoh) (fun w S hg=>⟨⟨qaE,fun f sp h=>qaD f sp h w S⟩,qaO w S hg,(fun _ _ h=>by cases h),(fun f sp h=>qbt f sp h),(fun f it h=>qbu f it h),(fun t kt vt h=>qaR t kt vt h)⟩) follows func113 (by kernel_rfl) (by kernel_rfl) (by kernel_rfl) ?_;intro avs r h;unfold s_z113 at h;split at h
 ·simp only[yb,true_and] at h;subst h;exact⟨0,qSk 0 _ _⟩
 ·cases h
def E_z54:EnvP:=⟨⟨tiOf tis,fnsOf [],cnsOf [],[],39,(fun x=>if x=2000005 then some [4,5,6] else none),(fun x=>if x=0 then some [4,6] else if x=1 then some [1043,1044,1045] else none),some [1000002,3]⟩,(fun x=>if x=4 then some (.osl 5 .byte) else if x=5 then some (.leaf (.int .i64)) else if x=6 then some (.leaf (.int .i64)) else if x=25 then some (.osl 5 .byte) else if x=31 then some (.osl 5 .byte) else none),fun _=>none,fun _=>[],fun _=>none,(fun x=>if x=113 then some s_z113 else none),(fun x=>if x=174 then some qKK else none),fun _=>none⟩
def C_z54:Code:=cO f54
def R_z54:Array ResultVar:=f54.results
theorem qWp (n:Nat) (s0:LU) (o0:Lab):evFnP E_z54 n C_z54 R_z54 [db s0 o0]=qPh n s0:=by
 kernel_rfl
theorem qFH:gG 54 s_z54:=sG (E:=E_z54) (fun w S hg=>⟨⟨qaE,fun f sp h=>qaD f sp h w S⟩,qaO w S hg,(fun _ _ h=>by cases h),(fun f sp h=>(qwT (qzs w S hg) qbt) f sp h),(fun f it h=>(qwU (qzr w S hg) qbu) f it h),(fun t kt vt h=>qaR t kt vt h)⟩) func54 fun avs r h=>by
 unfold s_z54 at h;split at h
 ·obtain⟨hp,rfl⟩:=yj h;exact eX (qQr _ hp) fun n=>qWp n _ _
 ·cases h
theorem qFI:gG 28 s_z28:=sY [(54,s_z54)] 11 (some [2]) (fC qFH fN) func28 fun avs r h=>by
 unfold s_z28 at h;split at h
 ·obtain⟨hp,rfl⟩:=yj h;exact eX (qQs _ hp)
 ·cases h
def E_z59:EnvP:=eQ [] 23 (some [2]) (fun x=>if x=3 then some [3,9,10,11] else none) (fun x=>if x=0 then some [3] else if x=1 then some [3,9,10,11] else none) (fun x=>if x=8 then some (.psl 21 (.leaf (.int .i32))) else none)
def C_z59:Code:=cO f59
def R_z59:Array ResultVar:=f59.results
noncomputable def qzt (K:KT):=fun t3=>K (.exit 0) (frOf [(3,(.pv (.psl 21 (.leaf (.int .i32))) t3 none))])
def qSl (n:Nat):KT:=qf 0 (E_z59.cutb 0) (kSeq (evCP E_z59 (evLP E_z59 n) (sub C_z59 [1,1,1])) (kFnP E_z59 R_z59))
def qSm (t3:LI) (s9:LU) (s10:Int) (s11:Int):Fr:=frOf [(3,(.pv (.psl 21 (.leaf (.int .i32))) t3 none)),(9,da s9),(10,dc s10),(11,dc s11)]
theorem qFJ (K:KT) (n:Nat):(fun t3 s9 s10 s11=>evLP E_z59 n (sub C_z59 [1,1,0,1,0,0]) K (qSm t3 s9 s10 s11))=qws (qzt K) n:=by
 induction n
 kernel_rfl;rename_i n ih;show _=qgz (qzt K) (qws (qzt K) n) n;rw[← ih];kernel_rfl
theorem qWq (n:Nat) (s0:LU) (o0:Lab):evFnP E_z59 n C_z59 R_z59 [db s0 o0]=qHK n s0:=by
 unfold qHK;rw[(Eq.trans (by kernel_rfl) (qFJ (qSl n) n).symm:qws (qrJ n) n=_)];kernel_rfl
theorem qtz:gG 59 s_z59:=sQ (E:=E_z59) (c:=C_z59) rfl fN func59 fun avs r h=>by
 unfold s_z59 at h;split at h
 ·obtain⟨hp,rfl⟩:=yj h;exact eX (qPH _ hp) fun n=>qWq n _ _
 ·cases h
theorem qzu:gG 114 s_z114:=sY [] 6 (some [2]) fN func114 fun avs r h=>by
 unfold s_z114 at h;split at h <;> cases h
 exact eX (qIQ _)
def E_z55:EnvP:=eQ [(59,s_z59),(114,s_z114)] 24 (some [2]) (fun x=>if x=4 then some [3,4,9,10,11] else none) (fun x=>if x=0 then some [3] else if x=1 then some [3,4,9,10,11] else none) (fun x=>if x=8 then some (.psl 21 (.leaf (.int .i32))) else none)
def C_z55:Code:=cO f55
def R_z55:Array ResultVar:=f55.results
noncomputable def qNH (K:KT):=fun t3=>K (.exit 0) (frOf [(3,(.pv (.psl 21 (.leaf (.int .i32))) t3 none))])
def qSn (n:Nat):KT:=qf 0 (E_z55.cutb 0) (kSeq (evCP E_z55 (evLP E_z55 n) (sub C_z55 [1,1,1,1])) (kFnP E_z55 R_z55))
def qSo (t3:LI) (s10:Int) (s11:Int):Fr:=frOf [(3,(.pv (.psl 21 (.leaf (.int .i32))) t3 none)),(4,(.fn 114 [])),(9,(.pval 3 [])),(10,dc s10),(11,dc s11)]
theorem qFK (K:KT) (n:Nat):(fun t3 s10 s11=>evLP E_z55 n (sub C_z55 [1,1,1,0,1,0,0]) K (qSo t3 s10 s11))=qwt (qNH K) n:=by
 induction n
 kernel_rfl;rename_i n ih;show _=qgA (qNH K) (qwt (qNH K) n) n;rw[← ih];kernel_rfl
theorem qWr (n:Nat) (s0:LU) (o0:Lab):evFnP E_z55 n C_z55 R_z55 [db s0 o0]=qHL n s0:=by
 unfold qHL;rw[(Eq.trans (by kernel_rfl) (qFK (qSn n) n).symm:qwt (qrL n) n=_)];kernel_rfl
theorem qFL:gG 55 s_z55:=sQ (E:=E_z55) (c:=C_z55) rfl (fC qtz (fC qzu fN)) func55 fun avs r h=>by
 unfold s_z55 at h;split at h
 ·obtain⟨hp,rfl⟩:=yj h;exact eX (qPI _ hp) fun n=>qWr n _ _
 ·cases h
theorem qop:gG 176 s_z176:=sY [] 10 (some [0]) fN func176 fun avs r h=>by
 unfold s_z176 at h;split at h <;> cases h
 exact eX (qIv )
def qqF:EnvP:=eQ [(176,s_z176)] 18 (some [2]) (fun x=>if x=2 then some [0,5,6] else none) (fun x=>if x=0 then some [0] else if x=1 then some [0,5,6] else none) nP
def qFM:Code:=cO f115
def qSp:Array ResultVar:=f115.results
noncomputable def qqG (K:KT):=fun s2=>K .ret (frOf [(2,di s2)])
noncomputable def qqH (K:KT):=fun x0=>K (.exit 0) (frOf [(0,dn x0)])
def qNI (n:Nat):KT:=qf 0 (qqF.cutb 0) (kSeq (evCP qqF (evLP qqF n) (sub qFM [1,1])) (kFnP qqF qSp))
def qNJ (x0:UInt8) (s5:List (UInt8×(Int×Unit))) (s6:Int):Fr:=frOf [(0,dn x0),(5,(.dat (.arr 8 (.pair .byte (.pair (.int .i32) .unit))) s5 none)),(6,dc s6)]
theorem qzv (K:KT) (n:Nat):(fun x0 s5 s6=>evLP qqF n (sub qFM [1,0,1,0,0]) K (qNJ x0 s5 s6))=qoW (qqG K) (qqH K) n:=by
 induction n
 kernel_rfl;rename_i n ih;show _=qub (qqG K) (qqH K) (qoW (qqG K) (qqH K) n) n;rw[← ih];kernel_rfl
theorem qSq (n:Nat) (x0:UInt8) (o0:Lab):evFnP qqF n qFM qSp [dp x0 o0]=qud n x0:=by
 unfold qud;rw[(Eq.trans (by kernel_rfl) (qzv (qNI n) n).symm:qoW qrK (quc n) n=_)];kernel_rfl
theorem qzw:gG 115 s_z115:=sQ (E:=qqF) (c:=qFM) rfl (fC qop fN) func115 fun avs r h=>by
 unfold s_z115 at h;split at h <;> cases h
 exact eX (qIR _) fun n=>qSq n _ _
def E_z56:EnvP:=eQ [(115,s_z115)] 19 (some [2]) (fun x=>if x=3 then some [3,6,7,8] else none) (fun x=>if x=0 then some [3] else if x=1 then some [3,6,7,8] else none) nP
def C_z56:Code:=cO f56
def R_z56:Array ResultVar:=f56.results
noncomputable def qzx (K:KT):=fun t3=>K (.exit 0) (frOf [(3,(.dat (.sl (.int .i32)) t3 (some (3,21))))])
def qSr (n:Nat):KT:=qf 0 (E_z56.cutb 0) (kSeq (evCP E_z56 (evLP E_z56 n) (sub C_z56 [1,1,1])) (kFnP E_z56 R_z56))
def qSs (t3:LI) (s6:LU) (s7:Int) (s8:Int):Fr:=frOf [(3,(.dat (.sl (.int .i32)) t3 (some (3,21)))),(6,da s6),(7,dc s7),(8,dc s8)]
theorem qFN (K:KT) (n:Nat):(fun t3 s6 s7 s8=>evLP E_z56 n (sub C_z56 [1,1,0,1,0,0]) K (qSs t3 s6 s7 s8))=qwu (qzx K) n:=by
 induction n
 kernel_rfl;rename_i n ih;show _=qgB (qzx K) (qwu (qzx K) n) n;rw[← ih];kernel_rfl
theorem qWs (n:Nat) (s0:LU) (o0:Lab):evFnP E_z56 n C_z56 R_z56 [db s0 o0]=qHM n s0:=by
 unfold qHM;rw[(Eq.trans (by kernel_rfl) (qFN (qSr n) n).symm:qwu (qml n) n=_)];kernel_rfl
theorem qFO:gG 56 s_z56:=sQ (E:=E_z56) (c:=C_z56) rfl (fC qzw fN) func56 fun avs r h=>by
 unfold s_z56 at h;split at h
 ·obtain⟨hp,rfl⟩:=yj h;exact eX (qPJ _ hp) fun n=>qWs n _ _
 ·cases h
def qSt:EnvP:=⟨⟨tiOf tis,fnsOf [],cnsOf [],[],4,(fun _=>none),(fun _=>none),some [0]⟩,fun _=>none,fun _=>none,(fun x=>if x=500002 then [1] else []),fun _=>none,fun _=>none,fun _=>none,fun _=>none⟩
def qWt:Code:=cO f177
def qWu:Array ResultVar:=f177.results
theorem qSu (n:Nat)  : evFnP qSt n qWt qWu []=qLi n  := by
 kernel_rfl
theorem qoq:gG 177 s_z177:=sG (E:=qSt) (fun w S hg=>⟨⟨qaE,fun f sp h=>qaD f sp h w S⟩,qaO w S hg,(fun _ _ h=>by cases h),(fun f sp h=>qbt f sp h),(fun f it h=>qbu f it h),(fun t kt vt h=>qaR t kt vt h)⟩) func177 fun avs r h=>by
 unfold s_z177 at h;split at h <;> cases h
 exact eX (qIw ) fun n=>qSu n
theorem qzy:gG 116 s_z116:=sY [(177,s_z177)] 20 (some [2]) (fC qoq fN) func116 fun avs r h=>by
 unfold s_z116 at h;split at h <;> cases h
 exact eX (qIX _)
def E_z57:EnvP:=eQ [(116,s_z116)] 22 (some [2]) (fun x=>if x=3 then some [3,9,10,11] else none) (fun x=>if x=0 then some [3] else if x=1 then some [3,9,10,11] else none) nP
def C_z57:Code:=cO f57
def R_z57:Array ResultVar:=f57.results
noncomputable def qzz (K:KT):=fun t3=>K (.exit 0) (frOf [(3,(.dat (.sl (.int .i32)) t3 (some (3,21))))])
def qSv (n:Nat):KT:=qf 0 (E_z57.cutb 0) (kSeq (evCP E_z57 (evLP E_z57 n) (sub C_z57 [1,1,1])) (kFnP E_z57 R_z57))
def qSw (t3:LI) (s9:LU) (s10:Int) (s11:Int):Fr:=frOf [(3,(.dat (.sl (.int .i32)) t3 (some (3,21)))),(9,da s9),(10,dc s10),(11,dc s11)]
theorem qFP (K:KT) (n:Nat):(fun t3 s9 s10 s11=>evLP E_z57 n (sub C_z57 [1,1,0,1,0,0]) K (qSw t3 s9 s10 s11))=qwv (qzz K) n:=by
 induction n
 kernel_rfl;rename_i n ih;show _=qgC (qzz K) (qwv (qzz K) n) n;rw[← ih];kernel_rfl
theorem qWv (n:Nat) (s0:LU) (o0:Lab):evFnP E_z57 n C_z57 R_z57 [db s0 o0]=qHN n s0:=by
 unfold qHN;rw[(Eq.trans (by kernel_rfl) (qFP (qSv n) n).symm:qwv (qmm n) n=_)];kernel_rfl
theorem qFQ:gG 57 s_z57:=sQ (E:=E_z57) (c:=C_z57) rfl (fC qzy fN) func57 fun avs r h=>by
 unfold s_z57 at h;split at h
 ·obtain⟨hp,rfl⟩:=yj h;exact eX (qPK _ hp) fun n=>qWv n _ _
 ·cases h
def qSx:EnvP:=eQ [] 11 (some [13]) nC nC (fun x=>if x=7 then some (.osl 21 (.int .i32)) else if x=10 then some (.osl 21 (.int .i32)) else none)
def qWw:Code:=cO f118
def qWx:Array ResultVar:=f118.results
theorem qSy (n:Nat) (c0:Int) (o0:Lab) (e1:Int) (o1:Lab) (x2:LI):evFnM qSx n qWw qWx [dm c0 o0,de e1 o1,.pbox (.osl 21 (.int .i32)) x2 none]=qBT n c0 e1 x2:=by
 kernel_rfl
theorem qzA:qkb G prog 118 s_z118:=sM (E:=qSx) (fun w S hg=>⟨⟨qaE,fun f sp h=>qaD f sp h w S⟩,qaO w S hg,(fun _ _ h=>by cases h),(fun f sp h=>qbt f sp h),(fun f it h=>qbu f it h),(fun t kt vt h=>qaR t kt vt h)⟩) func118 fun avs r h=>by
 unfold s_z118 at h;split at h
 ·obtain⟨hp,rfl⟩:=yj h;obtain⟨n,hn⟩:=qIV _ _ _ hp;exact⟨n,(qSy n _ _ _ _ _).trans hn⟩
 ·cases h
theorem qor:gG 185 s_z185:=sZ [] 10 (some [2]) nC (fun x=>if x=0 then some [] else none) nP fN func185 fun avs r h=>by
 unfold s_z185 at h;split at h <;> cases h
 exact eX (qIu _)
theorem qos:gG 218 s_z218:=sZ [] 19 (some [2]) nC (fun x=>if x=0 then some [] else none) nP fN func218 fun avs r h=>by
 unfold s_z218 at h;split at h <;> cases h
 exact eX (qIS _)
theorem qot:gG 237 s_z237:=sY [] 6 (some [2]) fN func237 fun avs r h=>by
 unfold s_z237 at h;split at h <;> cases h
 exact eX (qIY _)
theorem qzB:gG 238 s_z238:=sZ [(237,s_z237)] 40 (some [4]) nC (fun x=>if x=0 then some [1] else none) nP (fC qot fN) func238 fun avs r h=>by
 unfold s_z238 at h;split at h <;> cases h
 exact eX (qIT _ _)
def qqI:EnvP:=eQ [(218,s_z218),(237,s_z237),(238,s_z238)] 45 (some [2]) (fun x=>if x=2 then some [0,3] else none) (fun x=>if x=0 then some [0,3] else if x=1 then some [0,3] else none) nP
def qFR:Code:=cO f217
def qSz:Array ResultVar:=f217.results
def qzC (s0:LU) (n3:Int):Fr:=frOf [(0,da s0),(3,dc n3)]
noncomputable def qqJ (K:KT):=fun s0 n3=>K (.exit 0) (qzC s0 n3)
noncomputable def qqK (K:KT):=fun s2=>K .ret (frOf [(2,dc s2)])
def qNK (n:Nat):KT:=qf 0 (qqI.cutb 0) (kSeq (evCP qqI (evLP qqI n) (sub qFR [1,1,1])) (kFnP qqI qSz))
theorem qzD (K:KT) (n:Nat):(fun s0 n3=>evLP qqI n (sub qFR [1,1,0,0,0]) K (qzC s0 n3))=qjq (qqK K) (qqJ K) n:=by
 induction n
 kernel_rfl;rename_i n ih;show _=qco (qqK K) (qqJ K) (qjq (qqK K) (qqJ K) n) n;rw[← ih];kernel_rfl
theorem qSA (n:Nat) (s0:LU) (o0:Lab):evFnP qqI n qFR qSz [db s0 o0]=que n s0:=by
 unfold que;rw[(Eq.trans (by kernel_rfl) (qzD (qNK n) n).symm:qjq qKR (qaP n) n=_)];kernel_rfl
theorem qzE:gG 217 s_z217:=sQ (E:=qqI) (c:=qFR) rfl (fC qos (fC qot (fC qzB fN))) func217 fun avs r h=>by
 unfold s_z217 at h;split at h
 ·obtain⟨hp,rfl⟩:=yj h;exact eX (qIU _ hp) fun n=>qSA n _ _
 ·cases h
def qqL:EnvP:=eQ [(185,s_z185),(217,s_z217),(218,s_z218)] 63 (some [2,3,4]) (fun x=>if x=12 then some [5,6,48,49,50] else none) (fun x=>if x=0 then some [0,5] else if x=1 then some [5,6] else if x=2 then some [5,6,48,49,50] else none) nP
def qFS:Code:=cO f178
def qSB:Array ResultVar:=f178.results
noncomputable def qqM (K:KT):=fun n5 c6=>K (.exit 1) (frOf [(5,dc n5),(6,di c6)])
def qNL (n:Nat):KT:=qf 1 (qqL.cutb 1) (kSeq (evCP qqL (evLP qqL n) (sub qFS [1,1,1,1,1,1])) (kFnP qqL qSB))
def qNM (n5:Int) (c6:Int) (s48:LU) (s49:Int) (s50:Int):Fr:=frOf [(5,dc n5),(6,di c6),(48,da s48),(49,dc s49),(50,dc s50)]
theorem qvV (K:KT) (n:Nat):(fun n5 c6 s48 s49 s50=>evLP qqL n (sub qFS [1,1,1,1,1,0,1,0,0]) K (qNM n5 c6 s48 s49 s50))=qfb (qqM K) n:=by
 induction n
 kernel_rfl;rename_i n ih;show _=qcF (qqM K) (qfb (qqM K) n) n;rw[← ih];kernel_rfl
theorem qSC (n:Nat) (s0:LU) (o0:Lab):evFnP qqL n qFS qSB [db s0 o0]=quf n s0:=by
 unfold quf qfR qfQ qdJ qcG qbW;rw[(Eq.trans (by kernel_rfl) (qvV (qNL n) n).symm:qfb (qfP n) n=_)];kernel_rfl
theorem qzF:gG 178 s_z178:=sQ (E:=qqL) (c:=qFS) rfl (fC qor (fC qzE (fC qos fN))) func178 fun avs r h=>by
 unfold s_z178 at h;split at h
 ·obtain⟨hp,rfl⟩:=yj h;exact eX (qIZ _ hp) fun n=>qSC n _ _
 ·cases h
def qzG:EnvP:=⟨⟨tiOf tis,fnsOf [(178,s_z178)],cnsOf [],[],23,(fun x=>if x=0 then some [0,1,24] else none),(fun x=>if x=0 then some [24] else if x=1 then some [0,1,24] else none),some [24]⟩,fun _=>none,fun _=>none,fun _=>[],(fun x=>if x=118 then some s_z118 else none),fun _=>none,fun _=>none,fun _=>none⟩
def qSD:Code:=cO f117
def qSE:Array ResultVar:=f117.results
noncomputable def qqN (K:KT):=fun s24=>K (.exit 0) (frOf [(24,(.pbox (.osl 21 (.int .i32)) s24 none))])
def qNN (s0:LU) (f1:LI):KT:=qf 0 (qzG.cutb 0) (kFnM qzG qSE [db s0 none,.fn 118 [.pbox (.osl 21 (.int .i32)) f1 none]])
def qNO (s0:LU) (s24:LI):Fr:=frOf [(0,da s0),(1,(.padr 24 [.clo 118 false])),(24,(.pbox (.osl 21 (.int .i32)) s24 none))]
theorem qou (K:KT) (n:Nat):(fun s0 s24=>evLP qzG n (sub qSD [0,0]) K (qNO s0 s24))=qbX (qqN K) n:=by
 induction n
 kernel_rfl;rename_i n ih;show _=qcX (qqN K) (qbX (qqN K) n) n;rw[← ih];kernel_rfl
theorem qzH (n:Nat) (s0:LU) (o0:Lab) (f1:LI):evFnM qzG n qSD qSE [db s0 o0,.fn 118 [.pbox (.osl 21 (.int .i32)) f1 none]]=qjr n s0 f1:=by
 unfold qjr;rw[(Eq.trans (by kernel_rfl) (qou (qNN s0 f1) n).symm:qbX (qcY n) n=_)];kernel_rfl
theorem qzI:qkb G prog 117 s_z117:=sM (E:=qzG) (fun w S hg=>⟨⟨(qF (qzF w S hg) qaE),fun f sp h=>qaD f sp h w S⟩,qaO w S hg,(fun f sp h=>(qgc (qzA w S hg) qnp) f sp h),(fun _ _ h=>by cases h),(fun _ _ h=>by cases h),(fun t kt vt h=>qaR t kt vt h)⟩) func117 fun avs r h=>by
 unfold s_z117 at h;split at h
 ·obtain⟨hp,rfl⟩:=yj h;obtain⟨n,hn⟩:=qsm _ _ hp;exact⟨n,(qzH n _ _ _).trans hn⟩
 ·cases h
def E_z58:EnvP:=⟨⟨tiOf tis,fnsOf [],cnsOf [],[],8,(fun _=>none),(fun _=>none),some [2]⟩,(fun x=>if x=3 then some (.osl 21 (.int .i32)) else none),fun _=>none,fun _=>[],(fun x=>if x=117 then some s_z117 else none),fun _=>none,fun _=>none,fun _=>none⟩
def C_z58:Code:=cO f58
def R_z58:Array ResultVar:=f58.results
theorem qWy (n:Nat) (s0:LU) (o0:Lab):evFnP E_z58 n C_z58 R_z58 [db s0 o0]=qPi n s0:=by
 kernel_rfl
theorem qFT:gG 58 s_z58:=sG (E:=E_z58) (fun w S hg=>⟨⟨qaE,fun f sp h=>qaD f sp h w S⟩,qaO w S hg,(fun f sp h=>(qgc (qzI w S hg) qnp) f sp h),(fun f sp h=>qbt f sp h),(fun f it h=>qbu f it h),(fun t kt vt h=>qaR t kt vt h)⟩) func58 fun avs r h=>by
 unfold s_z58 at h;split at h
 ·obtain⟨hp,rfl⟩:=yj h;exact eX (qPM _ hp) fun n=>qWy n _ _
 ·cases h
end
end
end Go.Av
