import Derived.Test.YtmdadpepccbpcaaGreatDoorPoEvA
import Derived.Test.YtmdadpepccbpcaaGreatDoorPoD
import Derived.Test.YtmdadpepccbpcaaGreatDoorAvE
import Derived.Test.YtmdadpepccbpcaaGreatDoorProg
import Derived.KernelRfl
namespace Go.Av
set_option linter.unusedSimpArgs false
set_option linter.unusedVariables false
section
noncomputable section
open Go.Proofs Go.Proofs.Tryz
set_option maxRecDepth 100000
set_option linter.unusedVariables false
def qOh:EnvP:=⟨⟨tiOf tis,fnsOf [(167,s_z167),(206,s_z206),(208,s_z208),(210,s_z210)],cnsOf [],[],38,(fun _=>none),(fun _=>none),some [4]⟩,fun _=>none,fun _=>none,(fun x=>if x=500007 then [5] else []),fun _=>none,fun _=>none,fun _=>none,fun _=>none⟩
def qSo:Code:=cO f172
def qSp:Array ResultVar:=f172.results
theorem qOi (n:Nat) (s0:LU) (o0:Lab) (cutset1:LU) (o1:Lab):evFnP qOh n qSo qSp [db s0 o0,df cutset1 o1]=qzY n s0 cutset1:=by
 kernel_rfl
theorem qxq:gG 172 s_z172:=sG (E:=qOh) (fun w S hg=>⟨⟨(qc (qiP w S hg) (qc (qnr w S hg) (qc (qns w S hg) (qc (qno w S hg) qr)))),fun f sp h=>qq f sp h w S⟩,qt w S hg,(fun _ _ h=>by cases h),(fun f sp h=>qv f sp h),(fun f it h=>qw f it h),(fun t kt vt h=>qu t kt vt h)⟩) func172 fun avs r h=>by
 unfold s_z172 at h;split at h
 ·obtain⟨hp,rfl⟩:=yj h;exact eX (qHn _ _ hp) fun n=>qOi n _ _ _ _
 ·cases h
theorem qnt:gG 215 s_z215:=sY [(194,s_z194)] 21 (some [4]) (fC qnq fN) func215 fun avs r h=>by
 unfold s_z215 at h;split at h
 ·obtain⟨hp,rfl⟩:=yj h;exact eX (qGp _ _ hp) fun n=>by kernel_rfl
 ·cases h
theorem qxr:gG 173 s_z173:=sY [(215,s_z215)] 18 (some [4,5]) (fC qnt fN) func173 fun avs r h=>by
 unfold s_z173 at h;split at h
 ·obtain⟨hp,rfl⟩:=yj h;exact eX (qGw _ _ hp) fun n=>by kernel_rfl
 ·cases h
theorem qxs:gG 111 s_z111:=sY [(172,s_z172),(173,s_z173)] 11 (some [2,3]) (fC qxq (fC qxr fN)) func111 fun avs r h=>by
 unfold s_z111 at h;split at h
 ·obtain⟨hp,rfl⟩:=yj h;exact eX (qHp _ hp) fun n=>by kernel_rfl
 ·cases h
theorem qxt:gG 228 s_z228:=sZ [] 46 (some [2]) nC (fun x=>if x=0 then some [3] else none) nP fN func228 fun avs r h=>by
 unfold s_z228 at h;split at h <;> cases h
 exact eX (qFL _) fun n=>by kernel_rfl
theorem qxu:gG 236 s_z236:=sY [(164,s_z164)] 8 (some [4]) (fC qnm fN) func236 fun avs r h=>by
 unfold s_z236 at h;split at h <;> cases h
 exact eX (qFM _ _) fun n=>by kernel_rfl
theorem qnu:gG 216 s_z216:=sY [(236,s_z236)] 8 (some [4]) (fC qxu fN) func216 fun avs r h=>by
 unfold s_z216 at h;split at h <;> cases h
 exact eX (qFN _ _) fun n=>by kernel_rfl
theorem qxv:gG 229 s_z229:=sY [(216,s_z216)] 9 (some [4]) (fC qnu fN) func229 fun avs r h=>by
 unfold s_z229 at h;split at h <;> cases h
 exact eX (qFO _ _) fun n=>by kernel_rfl
theorem qxw:gG 198 s_z198:=sY [(228,s_z228),(229,s_z229)] 35 (some [2]) (fC qxt (fC qxv fN)) func198 fun avs r h=>by
 unfold s_z198 at h;split at h <;> cases h
 exact eX (qFP _) fun n=>by kernel_rfl
theorem qiR:gG 144 s_z144:=sY [(198,s_z198)] 10 (some [4]) (fC qxw fN) func144 fun avs r h=>by
 unfold s_z144 at h;split at h <;> cases h
 exact eX (qFQ _ _) fun n=>by kernel_rfl
theorem qnv:gG 154 s_z154:=sY [] 12 (some [2]) fN func154 fun avs r h=>by
 unfold s_z154 at h;split at h <;> cases h
 exact eX (qGk _) fun n=>by kernel_rfl
theorem qxx:gG 230 s_z230:=sZ [(144,s_z144),(154,s_z154)] 23 (some [2,3]) nC (fun x=>if x=0 then some [] else none) nP (fC qiR (fC qnv fN)) func230 fun avs r h=>by
 unfold s_z230 at h;split at h <;> cases h
 exact eX (qGm _) fun n=>by kernel_rfl
theorem qxy:gG 199 s_z199:=sY [(230,s_z230)] 31 (some [4,5]) (fC qxx fN) func199 fun avs r h=>by
 unfold s_z199 at h;split at h <;> cases h
 exact eX (qGn _ _) fun n=>by kernel_rfl
theorem qnw:gG 145 s_z145:=sY [(199,s_z199)] 38 (some [6,7]) (fC qxy fN) func145 fun avs r h=>by
 unfold s_z145 at h;split at h
 ·obtain⟨hp,rfl⟩:=yj h;exact eX (qGo _ _ _ hp) fun n=>by kernel_rfl
 ·cases h
def qpE:EnvP:=eQ [(145,s_z145)] 44 (some [2,3]) (fun x=>if x=4 then some [0,4,5,6] else none) (fun x=>if x=0 then some [4,5] else if x=1 then some [0,4,5,6] else none) (fun x=>if x=3 then some (.leaf (.int .i64)) else none)
def qDf:Code:=cO f112
def qOj:Array ResultVar:=f112.results
noncomputable def qpF (K:KT):=fun out4 strange5=>K (.exit 0) (frOf [(4,(db out4 (some (4,5)))),(5,dc strange5)])
def qKo (n:Nat):KT:=qk 0 (qpE.cutb 0) (kSeq (evCP qpE (evLP qpE n) (sub qDf [1,1,1,1])) (kFnP qpE qOj))
def qKp (l0:LU) (out4:LU) (strange5:Int) (at6:Int):Fr:=frOf [(0,da l0),(4,(db out4 (some (4,5)))),(5,dc strange5),(6,dc at6)]
theorem qxz (K:KT) (n:Nat):(fun l0 out4 strange5 at6=>evLP qpE n (sub qDf [1,1,1,0,1,0,0]) K (qKp l0 out4 strange5 at6))=qkr (qpF K) n:=by
 induction n
 kernel_rfl;rename_i n ih;show _=qdW (qpF K) (qkr (qpF K) n) n;rw[← ih];kernel_rfl
theorem qOk (n:Nat) (l0:LU) (o0:Lab):evFnP qpE n qDf qOj [db l0 o0]=qsO n l0:=by
 unfold qsO;rw[(Eq.trans (by kernel_rfl) (qxz (qKo n) n).symm:qkr (qlG n) n=_)];kernel_rfl
theorem qxA:gG 112 s_z112:=sQ (E:=qpE) (c:=qDf) rfl (fC qnw fN) func112 fun avs r h=>by
 unfold s_z112 at h;split at h
 ·obtain⟨hp,rfl⟩:=yj h;exact eX (qHq _ hp) fun n=>qOk n _ _
 ·cases h
theorem qDg:gG 53 s_z53:=sY [(111,s_z111),(112,s_z112)] 19 (some [2,3]) (fC qxs (fC qxA fN)) func53 fun avs r h=>by
 unfold s_z53 at h;split at h
 ·obtain⟨hp,rfl⟩:=yj h;exact eX (qMP _ hp) fun n=>by kernel_rfl
 ·cases h
def E_z27:EnvP:=⟨⟨tiOf tis,fnsOf [(53,s_z53)],cnsOf [],[],26,(fun x=>if x=2000005 then some [3] else none),(fun x=>if x=0 then some [3] else if x=1 then some [1029] else none),some [1000002]⟩,(fun x=>if x=3 then some (.osl 5 .byte) else if x=19 then some (.osl 5 .byte) else if x=24 then some (.osl 5 .byte) else none),fun _=>none,fun _=>[],fun _=>none,(fun x=>if x=52 then some s_z52 else none),(fun x=>if x=108 then some qHI else none),fun _=>none⟩
def C_z27:Code:=cO f27
def R_z27:Array ResultVar:=f27.results
theorem qSq (n:Nat) (s0:LU) (o0:Lab):evFnP E_z27 n C_z27 R_z27 [db s0 o0]=qLF n s0:=by
 kernel_rfl
theorem qDh:gG 27 s_z27:=sG (E:=E_z27) (fun w S hg=>⟨⟨(qc (qDg w S hg) qr),fun f sp h=>qq f sp h w S⟩,qt w S hg,(fun _ _ h=>by cases h),(fun f sp h=>(qoN (qDc w S hg) qv) f sp h),(fun f it h=>(qvr (qxn w S hg) qw) f it h),(fun t kt vt h=>qu t kt vt h)⟩) func27 fun avs r h=>by
 unfold s_z27 at h;split at h
 ·obtain⟨hp,rfl⟩:=yj h;exact eX (qMS _ hp) fun n=>qSq n _ _
 ·cases h
theorem qnx:gG 175 s_z175:=sY [(216,s_z216)] 11 (some [2,3]) (fC qnu fN) func175 fun avs r h=>by
 unfold s_z175 at h;split at h <;> cases h
 exact eX (qGV _) fun n=>by kernel_rfl
def qxB:EnvP:=eQ [(175,s_z175)] 28 (some [28,29]) (fun x=>if x=1 then some [0,7,8,9,28,29] else none) (fun x=>if x=0 then some [28,29] else if x=1 then some [0,7,8,9,28,29] else none) nP
def qOl:Code:=cO f174
def qOm:Array ResultVar:=f174.results
def qKq (V:Sigma Inv) (x0:Den V.1) (x1:LU):KT:=qk 0 (qxB.cutb 0) (kFnM qxB qOm [.abs V.1 V.2 x0,.pbox (.leaf (.sl .byte)) x1 none])
def qKr (s7:LU) (s8:Int) (s9:Int) (V:Sigma Inv) (xv:Den V.1) (s29:LU):Fr:=frOf [(0,(.padr 28 [])),(7,da s7),(8,dc s8),(9,dc s9),(28,(.abs V.1 V.2 xv)),(29,(.pbox (.leaf (.sl .byte)) s29 none))]
def qgs (V:Sigma Inv) (xv:Den V.1) (s29:LU):Fr:=frOf [(28,(.abs V.1 V.2 xv)),(29,(.pbox (.leaf (.sl .byte)) s29 none))]
theorem qxC (V:Sigma Inv) (K:KT) (n:Nat):(fun s7 s8 s9 xv s29=>evLP qxB n (sub qOl [1,0,0]) K (qKr s7 s8 s9 V xv s29))=(qhm V) (fun xv s29=>K .ret (qgs V xv s29)) (fun xv s29=>K (.exit 0) (qgs V xv s29)) n:=by
 induction n
 kernel_rfl;rename_i n ih;show _=(qdX V) (fun xv s29=>K .ret (qgs V xv s29)) (fun xv s29=>K (.exit 0) (qgs V xv s29)) ((qhm V) (fun xv s29=>K .ret (qgs V xv s29)) (fun xv s29=>K (.exit 0) (qgs V xv s29)) n) n;rw[← ih];kernel_rfl
theorem qOn (V:Sigma Inv) (n:Nat) (x0:Den V.1) (x1:LU):evFnM qxB n qOl qOm [.abs V.1 V.2 x0,.pbox (.leaf (.sl .byte)) x1 none]=(qsP V) n x0 x1:=by
 unfold qsP;rw[(Eq.trans (by kernel_rfl) ((qxC V) (qKq V x0 x1) n).symm:(qhm V) (qjd V) ((qfF V) n) n=_)];kernel_rfl
theorem quz:qjN G prog 174 s_z174:=sM (E:=qxB) (fun w S hg=>⟨⟨(qc (qnx w S hg) qr),fun f sp h=>qq f sp h w S⟩,qt w S hg,(fun _ _ h=>by cases h),(fun f sp h=>qv f sp h),(fun f it h=>qw f it h),(fun t kt vt h=>qu t kt vt h)⟩) func174 fun avs r h=>by
 unfold s_z174 at h;split at h
 ·rename_i s V x _;simp only[yb] at h;obtain⟨hp,rfl⟩:=h;obtain⟨n,hn⟩:=qGZ ⟨s,V⟩ _ _ hp;exact⟨n,(qOn ⟨s,V⟩ n _ _).trans hn⟩
 ·cases h
theorem qxD:qJy G prog 174 qHJ:=qjZ quz (enters_of func174 (by kernel_rfl) rfl) (fun s V x x' y h=>by
 obtain⟨h1,h2⟩:=yj h;subst h2;refine⟨_,_,Prod.ext h1 rfl⟩)
def qOo:EnvP:=eQ [] 4 (none) nC nC (fun x=>if x=1 then some (.leaf (.sl .byte)) else none)
def qOp:Code:=cO f113
def qSr:Array ResultVar:=f113.results
theorem qOq (n:Nat) (s0:LU) (o0:Lab):evFnR qOo n qOp qSr [db s0 o0]=qRl n s0:=by
 kernel_rfl
theorem qxE:qCf G prog 113 s_z113:=by
 refine qeA G_stays (E:=qOo) (fn:=f113) (c:=qOp) (qb rfl qT) (fun w S hg=>⟨⟨qr,fun f sp h=>qq f sp h w S⟩,qt w S hg,(fun _ _ h=>by cases h),(fun f sp h=>qv f sp h),(fun f it h=>qw f it h),(fun t kt vt h=>qu t kt vt h)⟩) follows func113 (by kernel_rfl) (by kernel_rfl) (by kernel_rfl) ?_;intro avs r h;unfold s_z113 at h;split at h
 ·simp only[yb,true_and] at h;subst h;exact⟨0,qOq 0 _ _⟩
 ·cases h
def E_z54:EnvP:=⟨⟨tiOf tis,fnsOf [],cnsOf [],[],39,(fun x=>if x=2000005 then some [4,5,6] else none),(fun x=>if x=0 then some [4,6] else if x=1 then some [1043,1044,1045] else none),some [1000002,3]⟩,(fun x=>if x=4 then some (.osl 5 .byte) else if x=5 then some (.leaf (.int .i64)) else if x=6 then some (.leaf (.int .i64)) else if x=25 then some (.osl 5 .byte) else if x=31 then some (.osl 5 .byte) else none),fun _=>none,fun _=>[],fun _=>none,(fun x=>if x=113 then some s_z113 else none),(fun x=>if x=174 then some qHJ else none),fun _=>none⟩
def C_z54:Code:=cO f54
def R_z54:Array ResultVar:=f54.results
theorem qSs (n:Nat) (s0:LU) (o0:Lab):evFnP E_z54 n C_z54 R_z54 [db s0 o0]=qLG n s0:=by
 kernel_rfl
theorem qDi:gG 54 s_z54:=sG (E:=E_z54) (fun w S hg=>⟨⟨qr,fun f sp h=>qq f sp h w S⟩,qt w S hg,(fun _ _ h=>by cases h),(fun f sp h=>(qoN (qxE w S hg) qv) f sp h),(fun f it h=>(qvr (qxD w S hg) qw) f it h),(fun t kt vt h=>qu t kt vt h)⟩) func54 fun avs r h=>by
 unfold s_z54 at h;split at h
 ·obtain⟨hp,rfl⟩:=yj h;exact eX (qMH _ hp) fun n=>qSs n _ _
 ·cases h
theorem qDj:gG 28 s_z28:=sY [(54,s_z54)] 11 (some [2]) (fC qDi fN) func28 fun avs r h=>by
 unfold s_z28 at h;split at h
 ·obtain⟨hp,rfl⟩:=yj h;exact eX (qMI _ hp) fun n=>by kernel_rfl
 ·cases h
def E_z59:EnvP:=eQ [] 23 (some [2]) (fun x=>if x=3 then some [3,9,10,11] else none) (fun x=>if x=0 then some [3] else if x=1 then some [3,9,10,11] else none) (fun x=>if x=8 then some (.psl 21 (.leaf (.int .i32))) else none)
def C_z59:Code:=cO f59
def R_z59:Array ResultVar:=f59.results
noncomputable def qxF (K:KT):=fun t3=>K (.exit 0) (frOf [(3,(.pv (.psl 21 (.leaf (.int .i32))) t3 none))])
def qOr (n:Nat):KT:=qk 0 (E_z59.cutb 0) (kSeq (evCP E_z59 (evLP E_z59 n) (sub C_z59 [1,1,1])) (kFnP E_z59 R_z59))
def qOs (t3:LI) (s9:LU) (s10:Int) (s11:Int):Fr:=frOf [(3,(.pv (.psl 21 (.leaf (.int .i32))) t3 none)),(9,da s9),(10,dc s10),(11,dc s11)]
theorem qDk (K:KT) (n:Nat):(fun t3 s9 s10 s11=>evLP E_z59 n (sub C_z59 [1,1,0,1,0,0]) K (qOs t3 s9 s10 s11))=quS (qxF K) n:=by
 induction n
 kernel_rfl;rename_i n ih;show _=qgu (qxF K) (quS (qxF K) n) n;rw[← ih];kernel_rfl
theorem qSt (n:Nat) (s0:LU) (o0:Lab):evFnP E_z59 n C_z59 R_z59 [db s0 o0]=qFs n s0:=by
 unfold qFs;rw[(Eq.trans (by kernel_rfl) (qDk (qOr n) n).symm:quS (qqD n) n=_)];kernel_rfl
theorem qsf:gG 59 s_z59:=sQ (E:=E_z59) (c:=C_z59) rfl fN func59 fun avs r h=>by
 unfold s_z59 at h;split at h
 ·obtain⟨hp,rfl⟩:=yj h;exact eX (qMe _ hp) fun n=>qSt n _ _
 ·cases h
theorem qxG:gG 114 s_z114:=sY [] 6 (some [2]) fN func114 fun avs r h=>by
 unfold s_z114 at h;split at h <;> cases h
 exact eX (qGq _) fun n=>by kernel_rfl
def E_z55:EnvP:=eQ [(59,s_z59),(114,s_z114)] 24 (some [2]) (fun x=>if x=4 then some [3,4,9,10,11] else none) (fun x=>if x=0 then some [3] else if x=1 then some [3,4,9,10,11] else none) (fun x=>if x=8 then some (.psl 21 (.leaf (.int .i32))) else none)
def C_z55:Code:=cO f55
def R_z55:Array ResultVar:=f55.results
noncomputable def qKs (K:KT):=fun t3=>K (.exit 0) (frOf [(3,(.pv (.psl 21 (.leaf (.int .i32))) t3 none))])
def qOt (n:Nat):KT:=qk 0 (E_z55.cutb 0) (kSeq (evCP E_z55 (evLP E_z55 n) (sub C_z55 [1,1,1,1])) (kFnP E_z55 R_z55))
def qOu (t3:LI) (s10:Int) (s11:Int):Fr:=frOf [(3,(.pv (.psl 21 (.leaf (.int .i32))) t3 none)),(4,(.fn 114 [])),(9,(.pval 3 [])),(10,dc s10),(11,dc s11)]
theorem qDl (K:KT) (n:Nat):(fun t3 s10 s11=>evLP E_z55 n (sub C_z55 [1,1,1,0,1,0,0]) K (qOu t3 s10 s11))=quT (qKs K) n:=by
 induction n
 kernel_rfl;rename_i n ih;show _=qgv (qKs K) (quT (qKs K) n) n;rw[← ih];kernel_rfl
theorem qSu (n:Nat) (s0:LU) (o0:Lab):evFnP E_z55 n C_z55 R_z55 [db s0 o0]=qFt n s0:=by
 unfold qFt;rw[(Eq.trans (by kernel_rfl) (qDl (qOt n) n).symm:quT (qqF n) n=_)];kernel_rfl
theorem qDm:gG 55 s_z55:=sQ (E:=E_z55) (c:=C_z55) rfl (fC qsf (fC qxG fN)) func55 fun avs r h=>by
 unfold s_z55 at h;split at h
 ·obtain⟨hp,rfl⟩:=yj h;exact eX (qMf _ hp) fun n=>qSu n _ _
 ·cases h
theorem qny:gG 176 s_z176:=sY [] 10 (some [0]) fN func176 fun avs r h=>by
 unfold s_z176 at h;split at h <;> cases h
 exact eX (qFY ) fun n=>by kernel_rfl
def qpG:EnvP:=eQ [(176,s_z176)] 18 (some [2]) (fun x=>if x=2 then some [0,5,6] else none) (fun x=>if x=0 then some [0] else if x=1 then some [0,5,6] else none) nP
def qDn:Code:=cO f115
def qOv:Array ResultVar:=f115.results
noncomputable def qpH (K:KT):=fun s2=>K .ret (frOf [(2,(di s2 none))])
noncomputable def qpI (K:KT):=fun x0=>K (.exit 0) (frOf [(0,dm x0)])
def qKt (n:Nat):KT:=qk 0 (qpG.cutb 0) (kSeq (evCP qpG (evLP qpG n) (sub qDn [1,1])) (kFnP qpG qOv))
def qKu (x0:UInt8) (s5:List (UInt8×(Int×Unit))) (s6:Int):Fr:=frOf [(0,dm x0),(5,(.dat (.arr 8 (.pair .byte (.pair (.int .i32) .unit))) s5 none)),(6,dc s6)]
theorem qxH (K:KT) (n:Nat):(fun x0 s5 s6=>evLP qpG n (sub qDn [1,0,1,0,0]) K (qKu x0 s5 s6))=qnU (qpH K) (qpI K) n:=by
 induction n
 kernel_rfl;rename_i n ih;show _=qsQ (qpH K) (qpI K) (qnU (qpH K) (qpI K) n) n;rw[← ih];kernel_rfl
theorem qOw (n:Nat) (x0:UInt8) (o0:Lab):evFnP qpG n qDn qOv [dn x0 o0]=qsS n x0:=by
 unfold qsS;rw[(Eq.trans (by kernel_rfl) (qxH (qKt n) n).symm:qnU qqE (qsR n) n=_)];kernel_rfl
theorem qxI:gG 115 s_z115:=sQ (E:=qpG) (c:=qDn) rfl (fC qny fN) func115 fun avs r h=>by
 unfold s_z115 at h;split at h <;> cases h
 exact eX (qGr _) fun n=>qOw n _ _
end
end
end Go.Av
