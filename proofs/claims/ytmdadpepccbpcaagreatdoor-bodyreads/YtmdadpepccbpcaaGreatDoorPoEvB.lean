import Derived.Test.YtmdadpepccbpcaaGreatDoorPoEvA
import Derived.Test.YtmdadpepccbpcaaGreatDoorPoD
import Derived.Test.YtmdadpepccbpcaaGreatDoorAvE
import Derived.Test.YtmdadpepccbpcaaGreatDoorProg
import Derived.KernelRfl
namespace Go.Av
set_option linter.unusedSimpArgs false
set_option linter.unusedVariables false
section
noncomputable section
open Go.Proofs Go.Proofs.Tryz
set_option maxRecDepth 100000
set_option linter.unusedVariables false
def qOd:EnvP:=⟨⟨tiOf tis,fnsOf [(167,s_z167),(206,s_z206),(208,s_z208),(210,s_z210)],cnsOf [],[],38,(fun _=>none),(fun _=>none),some [4]⟩,fun _=>none,fun _=>none,(fun x=>if x=500007 then [5] else []),fun _=>none,fun _=>none,fun _=>none,fun _=>none⟩
def qSk:Code:=cO f172
def qSl:Array ResultVar:=f172.results
theorem qOe (n:Nat) (s0:LU) (o0:Lab) (cutset1:LU) (o1:Lab):evFnP qOd n qSk qSl [db s0 o0,df cutset1 o1]=qzU n s0 cutset1:=by
 kernel_rfl
theorem qxm:gG 172 s_z172:=sG (E:=qOd) (fun w S hg=>⟨⟨(qc (qiO w S hg) (qc (qnq w S hg) (qc (qnr w S hg) (qc (qnn w S hg) qr)))),fun f sp h=>qq f sp h w S⟩,qt w S hg,(fun _ _ h=>by cases h),(fun f sp h=>qv f sp h),(fun f it h=>qw f it h),(fun t kt vt h=>qu t kt vt h)⟩) func172 fun avs r h=>by
 unfold s_z172 at h;split at h
 ·obtain⟨hp,rfl⟩:=yj h;exact eX (qHj _ _ hp) fun n=>qOe n _ _ _ _
 ·cases h
theorem qns:gG 215 s_z215:=sY [(194,s_z194)] 21 (some [4]) (fC qnp fN) func215 fun avs r h=>by
 unfold s_z215 at h;split at h
 ·obtain⟨hp,rfl⟩:=yj h;exact eX (qGl _ _ hp)
 ·cases h
theorem qxn:gG 173 s_z173:=sY [(215,s_z215)] 18 (some [4,5]) (fC qns fN) func173 fun avs r h=>by
 unfold s_z173 at h;split at h
 ·obtain⟨hp,rfl⟩:=yj h;exact eX (qGs _ _ hp)
 ·cases h
theorem qxo:gG 111 s_z111:=sY [(172,s_z172),(173,s_z173)] 11 (some [2,3]) (fC qxm (fC qxn fN)) func111 fun avs r h=>by
 unfold s_z111 at h;split at h
 ·obtain⟨hp,rfl⟩:=yj h;exact eX (qHl _ hp)
 ·cases h
theorem qxp:gG 228 s_z228:=sZ [] 46 (some [2]) nC (fun x=>if x=0 then some [3] else none) nP fN func228 fun avs r h=>by
 unfold s_z228 at h;split at h <;> cases h
 exact eX (qFH _)
theorem qxq:gG 236 s_z236:=sY [(164,s_z164)] 8 (some [4]) (fC qnl fN) func236 fun avs r h=>by
 unfold s_z236 at h;split at h <;> cases h
 exact eX (qFI _ _)
theorem qnt:gG 216 s_z216:=sY [(236,s_z236)] 8 (some [4]) (fC qxq fN) func216 fun avs r h=>by
 unfold s_z216 at h;split at h <;> cases h
 exact eX (qFJ _ _)
theorem qxr:gG 229 s_z229:=sY [(216,s_z216)] 9 (some [4]) (fC qnt fN) func229 fun avs r h=>by
 unfold s_z229 at h;split at h <;> cases h
 exact eX (qFK _ _)
theorem qxs:gG 198 s_z198:=sY [(228,s_z228),(229,s_z229)] 35 (some [2]) (fC qxp (fC qxr fN)) func198 fun avs r h=>by
 unfold s_z198 at h;split at h <;> cases h
 exact eX (qFL _)
theorem qiQ:gG 144 s_z144:=sY [(198,s_z198)] 10 (some [4]) (fC qxs fN) func144 fun avs r h=>by
 unfold s_z144 at h;split at h <;> cases h
 exact eX (qFM _ _)
theorem qnu:gG 154 s_z154:=sY [] 12 (some [2]) fN func154 fun avs r h=>by
 unfold s_z154 at h;split at h <;> cases h
 exact eX (qGg _)
theorem qxt:gG 230 s_z230:=sZ [(144,s_z144),(154,s_z154)] 23 (some [2,3]) nC (fun x=>if x=0 then some [] else none) nP (fC qiQ (fC qnu fN)) func230 fun avs r h=>by
 unfold s_z230 at h;split at h <;> cases h
 exact eX (qGi _)
theorem qxu:gG 199 s_z199:=sY [(230,s_z230)] 31 (some [4,5]) (fC qxt fN) func199 fun avs r h=>by
 unfold s_z199 at h;split at h <;> cases h
 exact eX (qGj _ _)
theorem qnv:gG 145 s_z145:=sY [(199,s_z199)] 38 (some [6,7]) (fC qxu fN) func145 fun avs r h=>by
 unfold s_z145 at h;split at h
 ·obtain⟨hp,rfl⟩:=yj h;exact eX (qGk _ _ _ hp)
 ·cases h
def qpB:EnvP:=eQ [(145,s_z145)] 44 (some [2,3]) (fun x=>if x=4 then some [0,4,5,6] else none) (fun x=>if x=0 then some [4,5] else if x=1 then some [0,4,5,6] else none) (fun x=>if x=3 then some (.leaf (.int .i64)) else none)
def qDb:Code:=cO f112
def qOf:Array ResultVar:=f112.results
noncomputable def qpC (K:KT):=fun out4 strange5=>K (.exit 0) (frOf [(4,(db out4 (some (4,5)))),(5,dc strange5)])
def qKk (n:Nat):KT:=qk 0 (qpB.cutb 0) (kSeq (evCP qpB (evLP qpB n) (sub qDb [1,1,1,1])) (kFnP qpB qOf))
def qKl (l0:LU) (out4:LU) (strange5:Int) (at6:Int):Fr:=frOf [(0,da l0),(4,(db out4 (some (4,5)))),(5,dc strange5),(6,dc at6)]
theorem qxv (K:KT) (n:Nat):(fun l0 out4 strange5 at6=>evLP qpB n (sub qDb [1,1,1,0,1,0,0]) K (qKl l0 out4 strange5 at6))=qkq (qpC K) n:=by
 induction n
 kernel_rfl;rename_i n ih;show _=qdV (qpC K) (qkq (qpC K) n) n;rw[← ih];kernel_rfl
theorem qOg (n:Nat) (l0:LU) (o0:Lab):evFnP qpB n qDb qOf [db l0 o0]=qsK n l0:=by
 unfold qsK;rw[(Eq.trans (by kernel_rfl) (qxv (qKk n) n).symm:qkq (qlF n) n=_)];kernel_rfl
theorem qxw:gG 112 s_z112:=sQ (E:=qpB) (c:=qDb) rfl (fC qnv fN) func112 fun avs r h=>by
 unfold s_z112 at h;split at h
 ·obtain⟨hp,rfl⟩:=yj h;exact eX (qHm _ hp) fun n=>qOg n _ _
 ·cases h
theorem qDc:gG 53 s_z53:=sY [(111,s_z111),(112,s_z112)] 19 (some [2,3]) (fC qxo (fC qxw fN)) func53 fun avs r h=>by
 unfold s_z53 at h;split at h
 ·obtain⟨hp,rfl⟩:=yj h;exact eX (qML _ hp)
 ·cases h
def E_z27:EnvP:=⟨⟨tiOf tis,fnsOf [(53,s_z53)],cnsOf [],[],26,(fun x=>if x=2000005 then some [3] else none),(fun x=>if x=0 then some [3] else if x=1 then some [1029] else none),some [1000002]⟩,(fun x=>if x=3 then some (.osl 5 .byte) else if x=19 then some (.osl 5 .byte) else if x=24 then some (.osl 5 .byte) else none),fun _=>none,fun _=>[],fun _=>none,(fun x=>if x=52 then some s_z52 else none),(fun x=>if x=108 then some qHE else none),fun _=>none⟩
def C_z27:Code:=cO f27
def R_z27:Array ResultVar:=f27.results
theorem qSm (n:Nat) (s0:LU) (o0:Lab):evFnP E_z27 n C_z27 R_z27 [db s0 o0]=qLB n s0:=by
 kernel_rfl
theorem qDd:gG 27 s_z27:=sG (E:=E_z27) (fun w S hg=>⟨⟨(qc (qDc w S hg) qr),fun f sp h=>qq f sp h w S⟩,qt w S hg,(fun _ _ h=>by cases h),(fun f sp h=>(qoK (qCY w S hg) qv) f sp h),(fun f it h=>(qvn (qxj w S hg) qw) f it h),(fun t kt vt h=>qu t kt vt h)⟩) func27 fun avs r h=>by
 unfold s_z27 at h;split at h
 ·obtain⟨hp,rfl⟩:=yj h;exact eX (qMO _ hp) fun n=>qSm n _ _
 ·cases h
theorem qnw:gG 175 s_z175:=sY [(216,s_z216)] 11 (some [2,3]) (fC qnt fN) func175 fun avs r h=>by
 unfold s_z175 at h;split at h <;> cases h
 exact eX (qGR _)
def qxx:EnvP:=eQ [(175,s_z175)] 28 (some [28,29]) (fun x=>if x=1 then some [0,7,8,9,28,29] else none) (fun x=>if x=0 then some [28,29] else if x=1 then some [0,7,8,9,28,29] else none) nP
def qOh:Code:=cO f174
def qOi:Array ResultVar:=f174.results
def qKm (V:Sigma Inv) (x0:Den V.1) (x1:LU):KT:=qk 0 (qxx.cutb 0) (kFnM qxx qOi [.abs V.1 V.2 x0,.pbox (.leaf (.sl .byte)) x1 none])
def qKn (s7:LU) (s8:Int) (s9:Int) (V:Sigma Inv) (xv:Den V.1) (s29:LU):Fr:=frOf [(0,(.padr 28 [])),(7,da s7),(8,dc s8),(9,dc s9),(28,(.abs V.1 V.2 xv)),(29,(.pbox (.leaf (.sl .byte)) s29 none))]
def qgs (V:Sigma Inv) (xv:Den V.1) (s29:LU):Fr:=frOf [(28,(.abs V.1 V.2 xv)),(29,(.pbox (.leaf (.sl .byte)) s29 none))]
theorem qxy (V:Sigma Inv) (K:KT) (n:Nat):(fun s7 s8 s9 xv s29=>evLP qxx n (sub qOh [1,0,0]) K (qKn s7 s8 s9 V xv s29))=(qhm V) (fun xv s29=>K .ret (qgs V xv s29)) (fun xv s29=>K (.exit 0) (qgs V xv s29)) n:=by
 induction n
 kernel_rfl;rename_i n ih;show _=(qdW V) (fun xv s29=>K .ret (qgs V xv s29)) (fun xv s29=>K (.exit 0) (qgs V xv s29)) ((qhm V) (fun xv s29=>K .ret (qgs V xv s29)) (fun xv s29=>K (.exit 0) (qgs V xv s29)) n) n;rw[← ih];kernel_rfl
theorem qOj (V:Sigma Inv) (n:Nat) (x0:Den V.1) (x1:LU):evFnM qxx n qOh qOi [.abs V.1 V.2 x0,.pbox (.leaf (.sl .byte)) x1 none]=(qsL V) n x0 x1:=by
 unfold qsL;rw[(Eq.trans (by kernel_rfl) ((qxy V) (qKm V x0 x1) n).symm:(qhm V) (qjc V) ((qfE V) n) n=_)];kernel_rfl
theorem quv:qjM G prog 174 s_z174:=sM (E:=qxx) (fun w S hg=>⟨⟨(qc (qnw w S hg) qr),fun f sp h=>qq f sp h w S⟩,qt w S hg,(fun _ _ h=>by cases h),(fun f sp h=>qv f sp h),(fun f it h=>qw f it h),(fun t kt vt h=>qu t kt vt h)⟩) func174 fun avs r h=>by
 unfold s_z174 at h;split at h
 ·rename_i s V x _;simp only[yb] at h;obtain⟨hp,rfl⟩:=h;obtain⟨n,hn⟩:=qGV ⟨s,V⟩ _ _ hp;exact⟨n,(qOj ⟨s,V⟩ n _ _).trans hn⟩
 ·cases h
theorem qxz:qJu G prog 174 qHF:=qjY quv (enters_of func174 (by kernel_rfl) rfl) (fun s V x x' y h=>by
 obtain⟨h1,h2⟩:=yj h;subst h2;refine⟨_,_,Prod.ext h1 rfl⟩)
def qOk:EnvP:=eQ [] 4 (none) nC nC (fun x=>if x=1 then some (.leaf (.sl .byte)) else none)
def qOl:Code:=cO f113
def qSn:Array ResultVar:=f113.results
theorem qOm (n:Nat) (s0:LU) (o0:Lab):evFnR qOk n qOl qSn [db s0 o0]=qRh n s0:=by
 kernel_rfl
theorem qxA:qCb G prog 113 s_z113:=by
 refine qey G_stays (E:=qOk) (fn:=f113) (c:=qOl) (qb rfl qT) (fun w S hg=>⟨⟨qr,fun f sp h=>qq f sp h w S⟩,qt w S hg,(fun _ _ h=>by cases h),(fun f sp h=>qv f sp h),(fun f it h=>qw f it h),(fun t kt vt h=>qu t kt vt h)⟩) follows func113 (by kernel_rfl) (by kernel_rfl) (by kernel_rfl) ?_;intro avs r h;unfold s_z113 at h;split at h
 ·simp only[yb,true_and] at h;subst h;exact⟨0,qOm 0 _ _⟩
 ·cases h
def E_z54:EnvP:=⟨⟨tiOf tis,fnsOf [],cnsOf [],[],39,(fun x=>if x=2000005 then some [4,5,6] else none),(fun x=>if x=0 then some [4,6] else if x=1 then some [1043,1044,1045] else none),some [1000002,3]⟩,(fun x=>if x=4 then some (.osl 5 .byte) else if x=5 then some (.leaf (.int .i64)) else if x=6 then some (.leaf (.int .i64)) else if x=25 then some (.osl 5 .byte) else if x=31 then some (.osl 5 .byte) else none),fun _=>none,fun _=>[],fun _=>none,(fun x=>if x=113 then some s_z113 else none),(fun x=>if x=174 then some qHF else none),fun _=>none⟩
def C_z54:Code:=cO f54
def R_z54:Array ResultVar:=f54.results
theorem qSo (n:Nat) (s0:LU) (o0:Lab):evFnP E_z54 n C_z54 R_z54 [db s0 o0]=qLC n s0:=by
 kernel_rfl
theorem qDe:gG 54 s_z54:=sG (E:=E_z54) (fun w S hg=>⟨⟨qr,fun f sp h=>qq f sp h w S⟩,qt w S hg,(fun _ _ h=>by cases h),(fun f sp h=>(qoK (qxA w S hg) qv) f sp h),(fun f it h=>(qvn (qxz w S hg) qw) f it h),(fun t kt vt h=>qu t kt vt h)⟩) func54 fun avs r h=>by
 unfold s_z54 at h;split at h
 ·obtain⟨hp,rfl⟩:=yj h;exact eX (qMD _ hp) fun n=>qSo n _ _
 ·cases h
theorem qDf:gG 28 s_z28:=sY [(54,s_z54)] 11 (some [2]) (fC qDe fN) func28 fun avs r h=>by
 unfold s_z28 at h;split at h
 ·obtain⟨hp,rfl⟩:=yj h;exact eX (qME _ hp)
 ·cases h
def E_z59:EnvP:=eQ [] 23 (some [2]) (fun x=>if x=3 then some [3,9,10,11] else none) (fun x=>if x=0 then some [3] else if x=1 then some [3,9,10,11] else none) (fun x=>if x=8 then some (.psl 21 (.leaf (.int .i32))) else none)
def C_z59:Code:=cO f59
def R_z59:Array ResultVar:=f59.results
noncomputable def qxB (K:KT):=fun t3=>K (.exit 0) (frOf [(3,(.pv (.psl 21 (.leaf (.int .i32))) t3 none))])
def qOn (n:Nat):KT:=qk 0 (E_z59.cutb 0) (kSeq (evCP E_z59 (evLP E_z59 n) (sub C_z59 [1,1,1])) (kFnP E_z59 R_z59))
def qOo (t3:LI) (s9:LU) (s10:Int) (s11:Int):Fr:=frOf [(3,(.pv (.psl 21 (.leaf (.int .i32))) t3 none)),(9,da s9),(10,dc s10),(11,dc s11)]
theorem qDg (K:KT) (n:Nat):(fun t3 s9 s10 s11=>evLP E_z59 n (sub C_z59 [1,1,0,1,0,0]) K (qOo t3 s9 s10 s11))=quO (qxB K) n:=by
 induction n
 kernel_rfl;rename_i n ih;show _=qgu (qxB K) (quO (qxB K) n) n;rw[← ih];kernel_rfl
theorem qSp (n:Nat) (s0:LU) (o0:Lab):evFnP E_z59 n C_z59 R_z59 [db s0 o0]=qFo n s0:=by
 unfold qFo;rw[(Eq.trans (by kernel_rfl) (qDg (qOn n) n).symm:quO (qqA n) n=_)];kernel_rfl
theorem qsb:gG 59 s_z59:=sQ (E:=E_z59) (c:=C_z59) rfl fN func59 fun avs r h=>by
 unfold s_z59 at h;split at h
 ·obtain⟨hp,rfl⟩:=yj h;exact eX (qMa _ hp) fun n=>qSp n _ _
 ·cases h
theorem qxC:gG 114 s_z114:=sY [] 6 (some [2]) fN func114 fun avs r h=>by
 unfold s_z114 at h;split at h <;> cases h
 exact eX (qGm _)
def E_z55:EnvP:=eQ [(59,s_z59),(114,s_z114)] 24 (some [2]) (fun x=>if x=4 then some [3,4,9,10,11] else none) (fun x=>if x=0 then some [3] else if x=1 then some [3,4,9,10,11] else none) (fun x=>if x=8 then some (.psl 21 (.leaf (.int .i32))) else none)
def C_z55:Code:=cO f55
def R_z55:Array ResultVar:=f55.results
noncomputable def qKo (K:KT):=fun t3=>K (.exit 0) (frOf [(3,(.pv (.psl 21 (.leaf (.int .i32))) t3 none))])
def qOp (n:Nat):KT:=qk 0 (E_z55.cutb 0) (kSeq (evCP E_z55 (evLP E_z55 n) (sub C_z55 [1,1,1,1])) (kFnP E_z55 R_z55))
def qOq (t3:LI) (s10:Int) (s11:Int):Fr:=frOf [(3,(.pv (.psl 21 (.leaf (.int .i32))) t3 none)),(4,(.fn 114 [])),(9,(.pval 3 [])),(10,dc s10),(11,dc s11)]
theorem qDh (K:KT) (n:Nat):(fun t3 s10 s11=>evLP E_z55 n (sub C_z55 [1,1,1,0,1,0,0]) K (qOq t3 s10 s11))=quP (qKo K) n:=by
 induction n
 kernel_rfl;rename_i n ih;show _=qgv (qKo K) (quP (qKo K) n) n;rw[← ih];kernel_rfl
theorem qSq (n:Nat) (s0:LU) (o0:Lab):evFnP E_z55 n C_z55 R_z55 [db s0 o0]=qFp n s0:=by
 unfold qFp;rw[(Eq.trans (by kernel_rfl) (qDh (qOp n) n).symm:quP (qqC n) n=_)];kernel_rfl
theorem qDi:gG 55 s_z55:=sQ (E:=E_z55) (c:=C_z55) rfl (fC qsb (fC qxC fN)) func55 fun avs r h=>by
 unfold s_z55 at h;split at h
 ·obtain⟨hp,rfl⟩:=yj h;exact eX (qMb _ hp) fun n=>qSq n _ _
 ·cases h
theorem qnx:gG 176 s_z176:=sY [] 10 (some [0]) fN func176 fun avs r h=>by
 unfold s_z176 at h;split at h <;> cases h
 exact eX (qFU )
def qpD:EnvP:=eQ [(176,s_z176)] 18 (some [2]) (fun x=>if x=2 then some [0,5,6] else none) (fun x=>if x=0 then some [0] else if x=1 then some [0,5,6] else none) nP
def qDj:Code:=cO f115
def qOr:Array ResultVar:=f115.results
noncomputable def qpE (K:KT):=fun s2=>K .ret (frOf [(2,(di s2 none))])
noncomputable def qpF (K:KT):=fun x0=>K (.exit 0) (frOf [(0,dm x0)])
def qKp (n:Nat):KT:=qk 0 (qpD.cutb 0) (kSeq (evCP qpD (evLP qpD n) (sub qDj [1,1])) (kFnP qpD qOr))
def qKq (x0:UInt8) (s5:List (UInt8×(Int×Unit))) (s6:Int):Fr:=frOf [(0,dm x0),(5,(.dat (.arr 8 (.pair .byte (.pair (.int .i32) .unit))) s5 none)),(6,dc s6)]
theorem qxD (K:KT) (n:Nat):(fun x0 s5 s6=>evLP qpD n (sub qDj [1,0,1,0,0]) K (qKq x0 s5 s6))=qnT (qpE K) (qpF K) n:=by
 induction n
 kernel_rfl;rename_i n ih;show _=qsM (qpE K) (qpF K) (qnT (qpE K) (qpF K) n) n;rw[← ih];kernel_rfl
theorem qOs (n:Nat) (x0:UInt8) (o0:Lab):evFnP qpD n qDj qOr [dn x0 o0]=qsO n x0:=by
 unfold qsO;rw[(Eq.trans (by kernel_rfl) (qxD (qKp n) n).symm:qnT qqB (qsN n) n=_)];kernel_rfl
theorem qxE:gG 115 s_z115:=sQ (E:=qpD) (c:=qDj) rfl (fC qnx fN) func115 fun avs r h=>by
 unfold s_z115 at h;split at h <;> cases h
 exact eX (qGn _) fun n=>qOs n _ _
end
end
end Go.Av
