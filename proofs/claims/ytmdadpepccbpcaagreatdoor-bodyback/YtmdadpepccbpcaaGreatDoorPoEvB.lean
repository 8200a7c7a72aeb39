import Derived.Test.YtmdadpepccbpcaaGreatDoorPoEvA
import Derived.Test.YtmdadpepccbpcaaGreatDoorPoD
import Derived.Test.YtmdadpepccbpcaaGreatDoorAvE
import Derived.Test.YtmdadpepccbpcaaGreatDoorProg
import Derived.KernelRfl
namespace Go.Av
set_option linter.unusedSimpArgs false
set_option linter.unusedVariables false
section
noncomputable section
open Go.Proofs Go.Proofs.Tryz
set_option maxRecDepth 100000
set_option linter.unusedVariables false
def quE:EnvP:=eQ [(109,s_z109),(110,s_z110)] 35 (some [35,36]) (fun x=>if x=0 then some [0,1,35,36] else none) (fun x=>if x=0 then some [35,36] else if x=1 then some [0,1,35,36] else none) nP
def qJW:Code:=cO f108
def qJX:Array ResultVar:=f108.results
def qGP (V:Sigma Inv) (x0:Den V.1) (x1:LU):KT:=qk 0 (quE.cutb 0) (kFnM quE qJX [.abs V.1 V.2 x0,.pbox (.leaf (.sl .byte)) x1 none])
def qGQ (V:Sigma Inv) (xv:Den V.1) (s36:LU):Fr:=frOf [(0,(.padr 35 [])),(1,(.padr 36 [])),(35,(.abs V.1 V.2 xv)),(36,(.pbox (.leaf (.sl .byte)) s36 none))]
def qfp (V:Sigma Inv) (xv:Den V.1) (s36:LU):Fr:=frOf [(35,(.abs V.1 V.2 xv)),(36,(.pbox (.leaf (.sl .byte)) s36 none))]
theorem quF (V:Sigma Inv) (K:KT) (n:Nat):(fun xv s36=>evLP quE n (sub qJW [0,0]) K (qGQ V xv s36))=(qfX V) (fun xv s36=>K .ret (qfp V xv s36)) (fun xv s36=>K (.exit 0) (qfp V xv s36)) n:=by
 induction n
 kernel_rfl;rename_i n ih;show _=(qgz V) (fun xv s36=>K .ret (qfp V xv s36)) (fun xv s36=>K (.exit 0) (qfp V xv s36)) ((qfX V) (fun xv s36=>K .ret (qfp V xv s36)) (fun xv s36=>K (.exit 0) (qfp V xv s36)) n) n;rw[← ih];kernel_rfl
theorem qJY (V:Sigma Inv) (n:Nat) (x0:Den V.1) (x1:LU):evFnM quE n qJW qJX [.abs V.1 V.2 x0,.pbox (.leaf (.sl .byte)) x1 none]=(qwQ V) n x0 x1:=by
 unfold qwQ;rw[(Eq.trans (by kernel_rfl) ((quF V) (qGP V x0 x1) n).symm:(qfX V) (qhE V) ((qqq V) n) n=_)];kernel_rfl
theorem qrU:qil G prog 108 s_z108:=sM (E:=quE) (fun w S hg=>⟨⟨(qq (qlB w S hg) (qq (quD w S hg) qQ)),fun f sp h=>qP f sp h w S⟩,qW w S hg,(fun _ _ h=>by cases h),(fun f sp h=>qah f sp h),(fun f it h=>qai f it h),(fun t kt vt h=>qX t kt vt h)⟩) func108 fun avs r h=>by
 unfold s_z108 at h;split at h
 ·rename_i s V x _;simp only[yb] at h;obtain⟨hp,rfl⟩:=h;obtain⟨n,hn⟩:=qDL ⟨s,V⟩ _ _ hp;exact⟨n,(qJY ⟨s,V⟩ n _ _).trans hn⟩
 ·cases h
theorem quG:qGe G prog 108 qEn:=qis qrU (enters_of func108 (by kernel_rfl) rfl) (fun s V x x' y h=>by
 obtain⟨h1,h2⟩:=yj h;subst h2;refine⟨_,_,Prod.ext h1 rfl⟩)
def E_z52:EnvP:=eQ [] 4 (none) nC nC (fun x=>if x=1 then some (.leaf (.sl .byte)) else none)
def C_z52:Code:=cO f52
def R_z52:Array ResultVar:=f52.results
theorem qNa (n:Nat) (s0:LU) (o0:Lab):evFnR E_z52 n C_z52 R_z52 [db s0 o0]=qNO n s0:=by
 kernel_rfl
theorem qAc:qGd G prog 52 s_z52:=by
 refine qgN G_stays (E:=E_z52) (fn:=f52) (c:=C_z52) (qo rfl qeD) (fun w S hg=>⟨⟨qQ,fun f sp h=>qP f sp h w S⟩,qW w S hg,(fun _ _ h=>by cases h),(fun f sp h=>qah f sp h),(fun f it h=>qai f it h),(fun t kt vt h=>qX t kt vt h)⟩) follows func52 (by kernel_rfl) (by kernel_rfl) (by kernel_rfl) ?_;intro avs r h;unfold s_z52 at h;split at h
 ·simp only[yb,true_and] at h;subst h;exact⟨0,qNa 0 _ _⟩
 ·cases h
def qnE:EnvP:=eQ [] 24 (some [4]) (fun x=>if x=1 then some [0,1] else none) (fun x=>if x=0 then some [0] else if x=1 then some [0,1] else none) nP
def qAd:Code:=cO f206
def qJZ:Array ResultVar:=f206.results
noncomputable def qnF (K:KT):=fun s0=>K (.exit 0) (frOf [(0,da s0)])
def qGR (n:Nat):KT:=qk 0 (qnE.cutb 0) (kSeq (evCP qnE (evLP qnE n) (sub qAd [1,1])) (kFnP qnE qJZ))
def qGS (s0:LU) (c1:UInt8):Fr:=frOf [(0,da s0),(1,(dm c1 none))]
theorem quH (K:KT) (n:Nat):(fun s0 c1=>evLP qnE n (sub qAd [1,0,0,0]) K (qGS s0 c1))=qmb (qnF K) n:=by
 induction n
 kernel_rfl;rename_i n ih;show _=qqr (qnF K) (qmb (qnF K) n) n;rw[← ih];kernel_rfl
theorem qKa (n:Nat) (s0:LU) (o0:Lab) (c1:UInt8) (o1:Lab):evFnP qnE n qAd qJZ [db s0 o0,dm c1 o1]=qwS n s0 c1:=by
 unfold qwS;rw[(Eq.trans (by kernel_rfl) (quH (qGR n) n).symm:qmb (qqs n) n=_)];kernel_rfl
theorem quI:gG 206 s_z206:=sQ (E:=qnE) (c:=qAd) rfl fN func206 fun avs r h=>by
 unfold s_z206 at h;split at h
 ·obtain⟨hp,rfl⟩:=yj h;exact eX (qCr _ _ hp) fun n=>qKa n _ _ _ _
 ·cases h
def qnG:EnvP:=eQ [(168,s_z168)] 23 (some [4]) (fun x=>if x=1 then some [0,1] else none) (fun x=>if x=0 then some [0] else if x=1 then some [0,1] else none) nP
def qAe:Code:=cO f208
def qKb:Array ResultVar:=f208.results
noncomputable def qnH (K:KT):=fun s0=>K (.exit 0) (frOf [(0,da s0)])
def qGT (n:Nat):KT:=qk 0 (qnG.cutb 0) (kSeq (evCP qnG (evLP qnG n) (sub qAe [1,1])) (kFnP qnG qKb))
def qGU (s0:LU) (as1:List Bool):Fr:=frOf [(0,da s0),(1,(.adr (.arr 256 .bool) as1))]
theorem quJ (K:KT) (n:Nat):(fun s0 as1=>evLP qnG n (sub qAe [1,0,0,0]) K (qGU s0 as1))=qhF (qnH K) n:=by
 induction n
 kernel_rfl;rename_i n ih;show _=qgA (qnH K) (qhF (qnH K) n) n;rw[← ih];kernel_rfl
theorem qKc (n:Nat) (s0:LU) (o0:Lab) (as1:List Bool):evFnP qnG n qAe qKb [db s0 o0,.adr (.arr 256 .bool) as1]=qqu n s0 as1:=by
 unfold qqu;rw[(Eq.trans (by kernel_rfl) (quJ (qGT n) n).symm:qhF (qqt n) n=_)];kernel_rfl
theorem quK:gG 208 s_z208:=sQ (E:=qnG) (c:=qAe) rfl (fC qlA fN) func208 fun avs r h=>by
 unfold s_z208 at h;split at h
 ·obtain⟨hp,rfl⟩:=yj h;exact eX (qCs _ _ hp) fun n=>qKc n _ _ _
 ·cases h
def qKd:EnvP:=⟨⟨tiOf tis,fnsOf [(167,s_z167),(206,s_z206),(208,s_z208),(210,s_z210)],cnsOf [],[],38,(fun _=>none),(fun _=>none),some [4]⟩,fun _=>none,fun _=>none,(fun x=>if x=500007 then [5] else []),fun _=>none,fun _=>none,fun _=>none,fun _=>none⟩
def qNb:Code:=cO f172
def qNc:Array ResultVar:=f172.results
theorem qKe (n:Nat) (s0:LU) (o0:Lab) (cutset1:LU) (o1:Lab):evFnP qKd n qNb qNc [db s0 o0,df cutset1 o1]=qwU n s0 cutset1:=by
 kernel_rfl
theorem quL:gG 172 s_z172:=sG (E:=qKd) (fun w S hg=>⟨⟨(qq (qlz w S hg) (qq (quI w S hg) (qq (quK w S hg) (qq (quw w S hg) qQ)))),fun f sp h=>qP f sp h w S⟩,qW w S hg,(fun _ _ h=>by cases h),(fun f sp h=>qah f sp h),(fun f it h=>qai f it h),(fun t kt vt h=>qX t kt vt h)⟩) func172 fun avs r h=>by
 unfold s_z172 at h;split at h
 ·obtain⟨hp,rfl⟩:=yj h;exact eX (qDD _ _ hp) fun n=>qKe n _ _ _ _
 ·cases h
theorem qlD:gG 215 s_z215:=sY [(194,s_z194)] 21 (some [4]) (fC qlC fN) func215 fun avs r h=>by
 unfold s_z215 at h;split at h
 ·obtain⟨hp,rfl⟩:=yj h;exact eX (qCy _ _ hp) fun n=>by kernel_rfl
 ·cases h
theorem quM:gG 173 s_z173:=sY [(215,s_z215)] 18 (some [4,5]) (fC qlD fN) func173 fun avs r h=>by
 unfold s_z173 at h;split at h
 ·obtain⟨hp,rfl⟩:=yj h;exact eX (qCF _ _ hp) fun n=>by kernel_rfl
 ·cases h
theorem quN:gG 111 s_z111:=sY [(172,s_z172),(173,s_z173)] 11 (some [2,3]) (fC quL (fC quM fN)) func111 fun avs r h=>by
 unfold s_z111 at h;split at h
 ·obtain⟨hp,rfl⟩:=yj h;exact eX (qDF _ hp) fun n=>by kernel_rfl
 ·cases h
theorem quO:gG 228 s_z228:=sZ [] 46 (some [2]) nC (fun x=>if x=0 then some [3] else none) nP fN func228 fun avs r h=>by
 unfold s_z228 at h;split at h <;> cases h
 exact eX (qCe _) fun n=>by kernel_rfl
theorem quP:gG 236 s_z236:=sY [(164,s_z164)] 8 (some [4]) (fC qlx fN) func236 fun avs r h=>by
 unfold s_z236 at h;split at h <;> cases h
 exact eX (qCf _ _) fun n=>by kernel_rfl
theorem qlE:gG 216 s_z216:=sY [(236,s_z236)] 8 (some [4]) (fC quP fN) func216 fun avs r h=>by
 unfold s_z216 at h;split at h <;> cases h
 exact eX (qCg _ _) fun n=>by kernel_rfl
theorem quQ:gG 229 s_z229:=sY [(216,s_z216)] 9 (some [4]) (fC qlE fN) func229 fun avs r h=>by
 unfold s_z229 at h;split at h <;> cases h
 exact eX (qCh _ _) fun n=>by kernel_rfl
theorem quR:gG 198 s_z198:=sY [(228,s_z228),(229,s_z229)] 35 (some [2]) (fC quO (fC quQ fN)) func198 fun avs r h=>by
 unfold s_z198 at h;split at h <;> cases h
 exact eX (qCi _) fun n=>by kernel_rfl
theorem qhs:gG 144 s_z144:=sY [(198,s_z198)] 10 (some [4]) (fC quR fN) func144 fun avs r h=>by
 unfold s_z144 at h;split at h <;> cases h
 exact eX (qCj _ _) fun n=>by kernel_rfl
theorem quS:gG 154 s_z154:=sY [] 12 (some [2]) fN func154 fun avs r h=>by
 unfold s_z154 at h;split at h <;> cases h
 exact eX (qCt _) fun n=>by kernel_rfl
theorem quT:gG 230 s_z230:=sZ [(144,s_z144),(154,s_z154)] 23 (some [2,3]) nC (fun x=>if x=0 then some [] else none) nP (fC qhs (fC quS fN)) func230 fun avs r h=>by
 unfold s_z230 at h;split at h <;> cases h
 exact eX (qCv _) fun n=>by kernel_rfl
theorem quU:gG 199 s_z199:=sY [(230,s_z230)] 31 (some [4,5]) (fC quT fN) func199 fun avs r h=>by
 unfold s_z199 at h;split at h <;> cases h
 exact eX (qCw _ _) fun n=>by kernel_rfl
theorem qlF:gG 145 s_z145:=sY [(199,s_z199)] 38 (some [6,7]) (fC quU fN) func145 fun avs r h=>by
 unfold s_z145 at h;split at h
 ·obtain⟨hp,rfl⟩:=yj h;exact eX (qCx _ _ _ hp) fun n=>by kernel_rfl
 ·cases h
def qnI:EnvP:=eQ [(145,s_z145)] 44 (some [2,3]) (fun x=>if x=4 then some [0,4,5,6] else none) (fun x=>if x=0 then some [4,5] else if x=1 then some [0,4,5,6] else none) (fun x=>if x=3 then some (.leaf (.int .i64)) else none)
def qAf:Code:=cO f112
def qKf:Array ResultVar:=f112.results
noncomputable def qnJ (K:KT):=fun out4 strange5=>K (.exit 0) (frOf [(4,(db out4 (some (4,5)))),(5,dc strange5)])
def qGV (n:Nat):KT:=qk 0 (qnI.cutb 0) (kSeq (evCP qnI (evLP qnI n) (sub qAf [1,1,1,1])) (kFnP qnI qKf))
def qGW (l0:LU) (out4:LU) (strange5:Int) (at6:Int):Fr:=frOf [(0,da l0),(4,(db out4 (some (4,5)))),(5,dc strange5),(6,dc at6)]
theorem quV (K:KT) (n:Nat):(fun l0 out4 strange5 at6=>evLP qnI n (sub qAf [1,1,1,0,1,0,0]) K (qGW l0 out4 strange5 at6))=qiJ (qnJ K) n:=by
 induction n
 kernel_rfl;rename_i n ih;show _=qds (qnJ K) (qiJ (qnJ K) n) n;rw[← ih];kernel_rfl
theorem qKg (n:Nat) (l0:LU) (o0:Lab):evFnP qnI n qAf qKf [db l0 o0]=qqv n l0:=by
 unfold qqv;rw[(Eq.trans (by kernel_rfl) (quV (qGV n) n).symm:qiJ (qjZ n) n=_)];kernel_rfl
theorem quW:gG 112 s_z112:=sQ (E:=qnI) (c:=qAf) rfl (fC qlF fN) func112 fun avs r h=>by
 unfold s_z112 at h;split at h
 ·obtain⟨hp,rfl⟩:=yj h;exact eX (qDH _ hp) fun n=>qKg n _ _
 ·cases h
end
end
end Go.Av
