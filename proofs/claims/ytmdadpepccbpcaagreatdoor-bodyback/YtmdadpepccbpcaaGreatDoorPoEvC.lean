import Derived.Test.YtmdadpepccbpcaaGreatDoorPoEvB
import Derived.Test.YtmdadpepccbpcaaGreatDoorPoD
import Derived.Test.YtmdadpepccbpcaaGreatDoorAvE
import Derived.Test.YtmdadpepccbpcaaGreatDoorProg
import Derived.KernelRfl
namespace Go.Av
set_option linter.unusedSimpArgs false
set_option linter.unusedVariables false
section
noncomputable section
open Go.Proofs Go.Proofs.Tryz
set_option maxRecDepth 100000
set_option linter.unusedVariables false
theorem qAg:gG 53 s_z53:=sY [(111,s_z111),(112,s_z112)] 19 (some [2,3]) (fC quN (fC quW fN)) func53 fun avs r h=>by
 unfold s_z53 at h;split at h
 ·obtain⟨hp,rfl⟩:=yj h;exact eX (qIR _ hp) fun n=>by kernel_rfl
 ·cases h
def E_z27:EnvP:=⟨⟨tiOf tis,fnsOf [(53,s_z53)],cnsOf [],[],26,(fun x=>if x=2000005 then some [3] else none),(fun x=>if x=0 then some [3] else if x=1 then some [1029] else none),some [1000002]⟩,(fun x=>if x=3 then some (.osl 5 .byte) else if x=19 then some (.osl 5 .byte) else if x=24 then some (.osl 5 .byte) else none),fun _=>none,fun _=>[],fun _=>none,(fun x=>if x=52 then some s_z52 else none),(fun x=>if x=108 then some qEn else none),fun _=>none⟩
def C_z27:Code:=cO f27
def R_z27:Array ResultVar:=f27.results
theorem qNd (n:Nat) (s0:LU) (o0:Lab):evFnP E_z27 n C_z27 R_z27 [db s0 o0]=qHZ n s0:=by
 kernel_rfl
theorem qAh:gG 27 s_z27:=sG (E:=E_z27) (fun w S hg=>⟨⟨(qq (qAg w S hg) qQ),fun f sp h=>qP f sp h w S⟩,qW w S hg,(fun _ _ h=>by cases h),(fun f sp h=>(qsJ (qAc w S hg) qah) f sp h),(fun f it h=>(qsK (quG w S hg) qai) f it h),(fun t kt vt h=>qX t kt vt h)⟩) func27 fun avs r h=>by
 unfold s_z27 at h;split at h
 ·obtain⟨hp,rfl⟩:=yj h;exact eX (qIT _ hp) fun n=>qNd n _ _
 ·cases h
theorem qlG:gG 175 s_z175:=sY [(216,s_z216)] 11 (some [2,3]) (fC qlE fN) func175 fun avs r h=>by
 unfold s_z175 at h;split at h <;> cases h
 exact eX (qDj _) fun n=>by kernel_rfl
def quX:EnvP:=eQ [(175,s_z175)] 28 (some [28,29]) (fun x=>if x=1 then some [0,7,8,9,28,29] else none) (fun x=>if x=0 then some [28,29] else if x=1 then some [0,7,8,9,28,29] else none) nP
def qKh:Code:=cO f174
def qKi:Array ResultVar:=f174.results
def qGX (V:Sigma Inv) (x0:Den V.1) (x1:LU):KT:=qk 0 (quX.cutb 0) (kFnM quX qKi [.abs V.1 V.2 x0,.pbox (.leaf (.sl .byte)) x1 none])
def qGY (s7:LU) (s8:Int) (s9:Int) (V:Sigma Inv) (xv:Den V.1) (s29:LU):Fr:=frOf [(0,(.padr 28 [])),(7,da s7),(8,dc s8),(9,dc s9),(28,(.abs V.1 V.2 xv)),(29,(.pbox (.leaf (.sl .byte)) s29 none))]
def qfq (V:Sigma Inv) (xv:Den V.1) (s29:LU):Fr:=frOf [(28,(.abs V.1 V.2 xv)),(29,(.pbox (.leaf (.sl .byte)) s29 none))]
theorem quY (V:Sigma Inv) (K:KT) (n:Nat):(fun s7 s8 s9 xv s29=>evLP quX n (sub qKh [1,0,0]) K (qGY s7 s8 s9 V xv s29))=(qfY V) (fun xv s29=>K .ret (qfq V xv s29)) (fun xv s29=>K (.exit 0) (qfq V xv s29)) n:=by
 induction n
 kernel_rfl;rename_i n ih;show _=(qdt V) (fun xv s29=>K .ret (qfq V xv s29)) (fun xv s29=>K (.exit 0) (qfq V xv s29)) ((qfY V) (fun xv s29=>K .ret (qfq V xv s29)) (fun xv s29=>K (.exit 0) (qfq V xv s29)) n) n;rw[← ih];kernel_rfl
theorem qKj (V:Sigma Inv) (n:Nat) (x0:Den V.1) (x1:LU):evFnM quX n qKh qKi [.abs V.1 V.2 x0,.pbox (.leaf (.sl .byte)) x1 none]=(qqw V) n x0 x1:=by
 unfold qqw;rw[(Eq.trans (by kernel_rfl) ((quY V) (qGX V x0 x1) n).symm:(qfY V) (qhE V) ((qeJ V) n) n=_)];kernel_rfl
theorem qrV:qil G prog 174 s_z174:=sM (E:=quX) (fun w S hg=>⟨⟨(qq (qlG w S hg) qQ),fun f sp h=>qP f sp h w S⟩,qW w S hg,(fun _ _ h=>by cases h),(fun f sp h=>qah f sp h),(fun f it h=>qai f it h),(fun t kt vt h=>qX t kt vt h)⟩) func174 fun avs r h=>by
 unfold s_z174 at h;split at h
 ·rename_i s V x _;simp only[yb] at h;obtain⟨hp,rfl⟩:=h;obtain⟨n,hn⟩:=qDn ⟨s,V⟩ _ _ hp;exact⟨n,(qKj ⟨s,V⟩ n _ _).trans hn⟩
 ·cases h
theorem quZ:qGe G prog 174 qEo:=qis qrV (enters_of func174 (by kernel_rfl) rfl) (fun s V x x' y h=>by
 obtain⟨h1,h2⟩:=yj h;subst h2;refine⟨_,_,Prod.ext h1 rfl⟩)
def qKk:EnvP:=eQ [] 4 (none) nC nC (fun x=>if x=1 then some (.leaf (.sl .byte)) else none)
def qKl:Code:=cO f113
def qNe:Array ResultVar:=f113.results
theorem qKm (n:Nat) (s0:LU) (o0:Lab):evFnR qKk n qKl qNe [db s0 o0]=qLU n s0:=by
 kernel_rfl
theorem qva:qGd G prog 113 s_z113:=by
 refine qgN G_stays (E:=qKk) (fn:=f113) (c:=qKl) (qo rfl qeD) (fun w S hg=>⟨⟨qQ,fun f sp h=>qP f sp h w S⟩,qW w S hg,(fun _ _ h=>by cases h),(fun f sp h=>qah f sp h),(fun f it h=>qai f it h),(fun t kt vt h=>qX t kt vt h)⟩) follows func113 (by kernel_rfl) (by kernel_rfl) (by kernel_rfl) ?_;intro avs r h;unfold s_z113 at h;split at h
 ·simp only[yb,true_and] at h;subst h;exact⟨0,qKm 0 _ _⟩
 ·cases h
def E_z54:EnvP:=⟨⟨tiOf tis,fnsOf [],cnsOf [],[],39,(fun x=>if x=2000005 then some [4,5,6] else none),(fun x=>if x=0 then some [4,6] else if x=1 then some [1043,1044,1045] else none),some [1000002,3]⟩,(fun x=>if x=4 then some (.osl 5 .byte) else if x=5 then some (.leaf (.int .i64)) else if x=6 then some (.leaf (.int .i64)) else if x=25 then some (.osl 5 .byte) else if x=31 then some (.osl 5 .byte) else none),fun _=>none,fun _=>[],fun _=>none,(fun x=>if x=113 then some s_z113 else none),(fun x=>if x=174 then some qEo else none),fun _=>none⟩
def C_z54:Code:=cO f54
def R_z54:Array ResultVar:=f54.results
theorem qNf (n:Nat) (s0:LU) (o0:Lab):evFnP E_z54 n C_z54 R_z54 [db s0 o0]=qIa n s0:=by
 kernel_rfl
theorem qAi:gG 54 s_z54:=sG (E:=E_z54) (fun w S hg=>⟨⟨qQ,fun f sp h=>qP f sp h w S⟩,qW w S hg,(fun _ _ h=>by cases h),(fun f sp h=>(qsJ (qva w S hg) qah) f sp h),(fun f it h=>(qsK (quZ w S hg) qai) f it h),(fun t kt vt h=>qX t kt vt h)⟩) func54 fun avs r h=>by
 unfold s_z54 at h;split at h
 ·obtain⟨hp,rfl⟩:=yj h;exact eX (qIJ _ hp) fun n=>qNf n _ _
 ·cases h
theorem qAj:gG 28 s_z28:=sY [(54,s_z54)] 11 (some [2]) (fC qAi fN) func28 fun avs r h=>by
 unfold s_z28 at h;split at h
 ·obtain⟨hp,rfl⟩:=yj h;exact eX (qIK _ hp) fun n=>by kernel_rfl
 ·cases h
def E_z59:EnvP:=eQ [] 23 (some [2]) (fun x=>if x=3 then some [3,9,10,11] else none) (fun x=>if x=0 then some [3] else if x=1 then some [3,9,10,11] else none) (fun x=>if x=8 then some (.psl 21 (.leaf (.int .i32))) else none)
def C_z59:Code:=cO f59
def R_z59:Array ResultVar:=f59.results
noncomputable def qvb (K:KT):=fun t3=>K (.exit 0) (frOf [(3,(.pv (.psl 21 (.leaf (.int .i32))) t3 none))])
def qKn (n:Nat):KT:=qk 0 (E_z59.cutb 0) (kSeq (evCP E_z59 (evLP E_z59 n) (sub C_z59 [1,1,1])) (kFnP E_z59 R_z59))
def qKo (t3:LI) (s9:LU) (s10:Int) (s11:Int):Fr:=frOf [(3,(.pv (.psl 21 (.leaf (.int .i32))) t3 none)),(9,da s9),(10,dc s10),(11,dc s11)]
theorem qAk (K:KT) (n:Nat):(fun t3 s9 s10 s11=>evLP E_z59 n (sub C_z59 [1,1,0,1,0,0]) K (qKo t3 s9 s10 s11))=qsl (qvb K) n:=by
 induction n
 kernel_rfl;rename_i n ih;show _=qfs (qvb K) (qsl (qvb K) n) n;rw[← ih];kernel_rfl
theorem qNg (n:Nat) (s0:LU) (o0:Lab):evFnP E_z59 n C_z59 R_z59 [db s0 o0]=qBO n s0:=by
 unfold qBO;rw[(Eq.trans (by kernel_rfl) (qAk (qKn n) n).symm:qsl (qou n) n=_)];kernel_rfl
theorem qqa:gG 59 s_z59:=sQ (E:=E_z59) (c:=C_z59) rfl fN func59 fun avs r h=>by
 unfold s_z59 at h;split at h
 ·obtain⟨hp,rfl⟩:=yj h;exact eX (qIn _ hp) fun n=>qNg n _ _
 ·cases h
theorem qvc:gG 114 s_z114:=sY [] 6 (some [2]) fN func114 fun avs r h=>by
 unfold s_z114 at h;split at h <;> cases h
 exact eX (qCz _) fun n=>by kernel_rfl
def E_z55:EnvP:=eQ [(59,s_z59),(114,s_z114)] 24 (some [2]) (fun x=>if x=4 then some [3,4,9,10,11] else none) (fun x=>if x=0 then some [3] else if x=1 then some [3,4,9,10,11] else none) (fun x=>if x=8 then some (.psl 21 (.leaf (.int .i32))) else none)
def C_z55:Code:=cO f55
def R_z55:Array ResultVar:=f55.results
noncomputable def qGZ (K:KT):=fun t3=>K (.exit 0) (frOf [(3,(.pv (.psl 21 (.leaf (.int .i32))) t3 none))])
def qKp (n:Nat):KT:=qk 0 (E_z55.cutb 0) (kSeq (evCP E_z55 (evLP E_z55 n) (sub C_z55 [1,1,1,1])) (kFnP E_z55 R_z55))
def qKq (t3:LI) (s10:Int) (s11:Int):Fr:=frOf [(3,(.pv (.psl 21 (.leaf (.int .i32))) t3 none)),(4,(.fn 114 [])),(9,(.pval 3 [])),(10,dc s10),(11,dc s11)]
theorem qAl (K:KT) (n:Nat):(fun t3 s10 s11=>evLP E_z55 n (sub C_z55 [1,1,1,0,1,0,0]) K (qKq t3 s10 s11))=qsm (qGZ K) n:=by
 induction n
 kernel_rfl;rename_i n ih;show _=qft (qGZ K) (qsm (qGZ K) n) n;rw[← ih];kernel_rfl
theorem qNh (n:Nat) (s0:LU) (o0:Lab):evFnP E_z55 n C_z55 R_z55 [db s0 o0]=qBP n s0:=by
 unfold qBP;rw[(Eq.trans (by kernel_rfl) (qAl (qKp n) n).symm:qsm (qow n) n=_)];kernel_rfl
theorem qAm:gG 55 s_z55:=sQ (E:=E_z55) (c:=C_z55) rfl (fC qqa (fC qvc fN)) func55 fun avs r h=>by
 unfold s_z55 at h;split at h
 ·obtain⟨hp,rfl⟩:=yj h;exact eX (qIo _ hp) fun n=>qNh n _ _
 ·cases h
theorem qlH:gG 176 s_z176:=sY [] 10 (some [0]) fN func176 fun avs r h=>by
 unfold s_z176 at h;split at h <;> cases h
 exact eX (qCl ) fun n=>by kernel_rfl
def qnK:EnvP:=eQ [(176,s_z176)] 18 (some [2]) (fun x=>if x=2 then some [0,5,6] else none) (fun x=>if x=0 then some [0] else if x=1 then some [0,5,6] else none) nP
def qAn:Code:=cO f115
def qKr:Array ResultVar:=f115.results
noncomputable def qnL (K:KT):=fun s2=>K .ret (frOf [(2,(di s2 none))])
noncomputable def qnM (K:KT):=fun x0=>K (.exit 0) (frOf [(0,(dm x0 none))])
def qHa (n:Nat):KT:=qk 0 (qnK.cutb 0) (kSeq (evCP qnK (evLP qnK n) (sub qAn [1,1])) (kFnP qnK qKr))
def qHb (x0:UInt8) (s5:List (UInt8×(Int×Unit))) (s6:Int):Fr:=frOf [(0,(dm x0 none)),(5,(.dat (.arr 8 (.pair .byte (.pair (.int .i32) .unit))) s5 none)),(6,dc s6)]
theorem qvd (K:KT) (n:Nat):(fun x0 s5 s6=>evLP qnK n (sub qAn [1,0,1,0,0]) K (qHb x0 s5 s6))=qmd (qnL K) (qnM K) n:=by
 induction n
 kernel_rfl;rename_i n ih;show _=qqx (qnL K) (qnM K) (qmd (qnL K) (qnM K) n) n;rw[← ih];kernel_rfl
theorem qKs (n:Nat) (x0:UInt8) (o0:Lab):evFnP qnK n qAn qKr [dm x0 o0]=qqz n x0:=by
 unfold qqz;rw[(Eq.trans (by kernel_rfl) (qvd (qHa n) n).symm:qmd qov (qqy n) n=_)];kernel_rfl
theorem qve:gG 115 s_z115:=sQ (E:=qnK) (c:=qAn) rfl (fC qlH fN) func115 fun avs r h=>by
 unfold s_z115 at h;split at h <;> cases h
 exact eX (qCA _) fun n=>qKs n _ _
def E_z56:EnvP:=eQ [(115,s_z115)] 19 (some [2]) (fun x=>if x=3 then some [3,6,7,8] else none) (fun x=>if x=0 then some [3] else if x=1 then some [3,6,7,8] else none) nP
def C_z56:Code:=cO f56
def R_z56:Array ResultVar:=f56.results
noncomputable def qvf (K:KT):=fun t3=>K (.exit 0) (frOf [(3,(.dat (.sl (.int .i32)) t3 (some (3,21))))])
def qKt (n:Nat):KT:=qk 0 (E_z56.cutb 0) (kSeq (evCP E_z56 (evLP E_z56 n) (sub C_z56 [1,1,1])) (kFnP E_z56 R_z56))
def qKu (t3:LI) (s6:LU) (s7:Int) (s8:Int):Fr:=frOf [(3,(.dat (.sl (.int .i32)) t3 (some (3,21)))),(6,da s6),(7,dc s7),(8,dc s8)]
theorem qAo (K:KT) (n:Nat):(fun t3 s6 s7 s8=>evLP E_z56 n (sub C_z56 [1,1,0,1,0,0]) K (qKu t3 s6 s7 s8))=qsn (qvf K) n:=by
 induction n
 kernel_rfl;rename_i n ih;show _=qfu (qvf K) (qsn (qvf K) n) n;rw[← ih];kernel_rfl
theorem qNi (n:Nat) (s0:LU) (o0:Lab):evFnP E_z56 n C_z56 R_z56 [db s0 o0]=qBQ n s0:=by
 unfold qBQ;rw[(Eq.trans (by kernel_rfl) (qAo (qKt n) n).symm:qsn (qka n) n=_)];kernel_rfl
theorem qAp:gG 56 s_z56:=sQ (E:=E_z56) (c:=C_z56) rfl (fC qve fN) func56 fun avs r h=>by
 unfold s_z56 at h;split at h
 ·obtain⟨hp,rfl⟩:=yj h;exact eX (qIp _ hp) fun n=>qNi n _ _
 ·cases h
def qKv:EnvP:=⟨⟨tiOf tis,fnsOf [],cnsOf [],[],4,(fun _=>none),(fun _=>none),some [0]⟩,fun _=>none,fun _=>none,(fun x=>if x=500002 then [1] else []),fun _=>none,fun _=>none,fun _=>none,fun _=>none⟩
def qNj:Code:=cO f177
def qNk:Array ResultVar:=f177.results
theorem qKw (n:Nat)  : evFnP qKv n qNj qNk []=qEK n  := by
 kernel_rfl
theorem qlI:gG 177 s_z177:=sG (E:=qKv) (fun w S hg=>⟨⟨qQ,fun f sp h=>qP f sp h w S⟩,qW w S hg,(fun _ _ h=>by cases h),(fun f sp h=>qah f sp h),(fun f it h=>qai f it h),(fun t kt vt h=>qX t kt vt h)⟩) func177 fun avs r h=>by
 unfold s_z177 at h;split at h <;> cases h
 exact eX (qCm ) fun n=>qKw n
end
end
end Go.Av
