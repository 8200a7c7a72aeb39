import Derived.Test.YtmageajchmoomaaGreatDoorCbEvA
import Derived.Test.YtmageajchmoomaaGreatDoorCbD
import Derived.Test.YtmageajchmoomaaGreatDoorAvE
import Derived.Test.YtmageajchmoomaaGreatDoorProg
import Derived.KernelRfl
namespace Go.Av
set_option linter.unusedSimpArgs false
set_option linter.unusedVariables false
section
noncomputable section
open Go.Proofs Go.Proofs.Tryz
set_option maxRecDepth 100000
set_option linter.unusedVariables false
def E_z44:EnvP:=⟨⟨tiOf tis,fnsOf [(61,s_z61)],cnsOf [],[],22,(fun x=>if x=3 then some [1,2] else if x=6 then some [1,2,11,12,13] else none),(fun x=>if x=0 then some [1] else if x=1 then some [1,2] else if x=2 then some [1,2] else if x=3 then some [1,2,11,12,13] else none),none⟩,fun _=>none,fun _=>none,fun _=>[],fun _=>none,fun _=>none,fun _=>none,(fun x=>if x=81 then some (9,3) else none)⟩
def C_z44:Code:=cO f44
def R_z44:Array ResultVar:=f44.results
def qwH (m1:List (LU×Int)) (n2:Int):Fr:=frOf [(1,(.abs (.sl (.pair .str (.int .i64))) (qjm .str (.int .i64)) m1)),(2,dc n2)]
noncomputable def qwI (K:KT):=fun m1 n2=>K (.exit 2) (qwH m1 n2)
noncomputable def qro (K:KT):=fun m1=>K (.exit 0) (frOf [(1,(.abs (.sl (.pair .str (.int .i64))) (qjm .str (.int .i64)) m1))])
def qOk (n:Nat) (K:KT):KT:=qn 2 (E_z44.cutb 2) (qn 1 (E_z44.cutb 1) (kSeq (evCP E_z44 (evLP E_z44 n) (sub C_z44 [1,1,0,1,0,0,1,1])) (kSeq (fun K fr=>evLP E_z44 n (sub C_z44 [1,1,0,1,0,0]) K (cutFP (E_z44.cuts 3) fr)) K)))
def qOl (n:Nat):KT:=qn 0 (E_z44.cutb 0) (kSeq (evCP E_z44 (evLP E_z44 n) (sub C_z44 [1,1,1])) (kFnR R_z44))
def qOm (m1:List (LU×Int)) (n2:Int) (s11:List LU) (s12:Int) (s13:Int):Fr:=frOf [(1,(.abs (.sl (.pair .str (.int .i64))) (qjm .str (.int .i64)) m1)),(2,dc n2),(11,(.dat (.sl .str) s11 (some (11,9)))),(12,dc s12),(13,dc s13)]
theorem qCr (K:KT) (n:Nat):(fun m1 n2 s11 s12 s13=>evLP E_z44 n (sub C_z44 [1,1,0,1,0,0,1,0,0,1,0,0]) K (qOm m1 n2 s11 s12 s13))=qyH (qwI K) n:=by
 induction n
 kernel_rfl;rename_i n ih;show _=qyG (qwI K) (qyH (qwI K) n) n;rw[← ih];kernel_rfl
theorem qCs (K:KT) (n:Nat):(fun m1 n2=>evLP E_z44 n (sub C_z44 [1,1,0,1,0,0]) K (qwH m1 n2))=qyJ (qro K) n:=by
 induction n
 kernel_rfl;rename_i n ih;funext m1 n2;show _=qpF (qro K) (qyJ (qro K) n) n m1 n2;rw[← ih];unfold qpF;rw[(Eq.trans (by kernel_rfl) (qCr (qOk n K) n).symm:qyH (qyI (qro K) (fun m1 n2=>evLP E_z44 n (sub C_z44 [1,1,0,1,0,0]) K (qwH m1 n2)) n) n=_)];kernel_rfl
theorem qSk (n:Nat)  : evFnR E_z44 n C_z44 R_z44 []=qKy n  := by
 unfold qKy;rw[(Eq.trans (by kernel_rfl) (qCs (qOl n) n).symm:qyJ (qyK n) n=_)];kernel_rfl
theorem qCt:qNv G prog 44 s_z44:=by
 refine qoi G_stays (E:=E_z44) (fn:=f44) (c:=C_z44) (qq rfl qcX) (fun w S hg=>⟨⟨(qv (qrn w S hg) qJ),fun f sp h=>qI f sp h w S⟩,qW w S hg,(fun _ _ h=>by cases h),(fun f sp h=>qaj f sp h),(fun f it h=>qak f it h),(fun t kt vt h=>(qoj (by kernel_rfl) qR) t kt vt h)⟩) follows func44 (by kernel_rfl) (by kernel_rfl) (by kernel_rfl) ?_;intro avs r h;unfold s_z44 at h;split at h <;> cases h
 obtain⟨n,hn⟩:=qLa;exact⟨n,(qSk n ).trans hn⟩
theorem qrp:gG 62 s_z62:=sY [(90,s_z90)] 8 (some [4]) (fC qCd fN) func62 fun avs r h=>by
 unfold s_z62 at h;split at h <;> cases h
 exact eX (qKY _ _)
def qoG:EnvP:=eQ [] 21 (some [1000004]) (fun x=>if x=1 then some [0,1] else none) (fun x=>if x=0 then some [0] else if x=1 then some [0,1] else none) nP
def qCu:Code:=cO f120
def qOn:Array ResultVar:=f120.results
noncomputable def qoH (K:KT):=fun s0=>K (.exit 0) (frOf [(0,da s0)])
def qJn (n:Nat):KT:=qn 0 (qoG.cutb 0) (kSeq (evCP qoG (evLP qoG n) (sub qCu [1,1])) (kFnP qoG qOn))
def qJo (s0:LU) (c1:UInt8):Fr:=frOf [(0,da s0),(1,dm c1)]
theorem qwJ (K:KT) (n:Nat):(fun s0 c1=>evLP qoG n (sub qCu [1,0,0,0]) K (qJo s0 c1))=qne (qoH K) n:=by
 induction n
 kernel_rfl;rename_i n ih;show _=qrN (qoH K) (qne (qoH K) n) n;rw[← ih];kernel_rfl
theorem qOo (n:Nat) (s0:LU) (o0:Lab) (c1:UInt8) (o1:Lab):evFnP qoG n qCu qOn [db s0 o0,dn c1 o1]=qyL n s0 c1:=by
 unfold qyL;rw[(Eq.trans (by kernel_rfl) (qwJ (qJn n) n).symm:qne (qrO n) n=_)];kernel_rfl
theorem qwK:gG 120 s_z120:=sQ (E:=qoG) (c:=qCu) rfl fN func120 fun avs r h=>by
 unfold s_z120 at h;split at h
 ·obtain⟨hp,rfl⟩:=yj h;exact eX (qEx _ _ hp) fun n=>qOo n _ _ _ _
 ·cases h
def qoI:EnvP:=eQ [] 24 (some [4]) (fun x=>if x=1 then some [0,1] else none) (fun x=>if x=0 then some [0] else if x=1 then some [0,1] else none) nP
def qCv:Code:=cO f121
def qOp:Array ResultVar:=f121.results
noncomputable def qoJ (K:KT):=fun s0=>K (.exit 0) (frOf [(0,da s0)])
def qJp (n:Nat):KT:=qn 0 (qoI.cutb 0) (kSeq (evCP qoI (evLP qoI n) (sub qCv [1,1])) (kFnP qoI qOp))
def qJq (s0:LU) (c1:UInt8):Fr:=frOf [(0,da s0),(1,dm c1)]
theorem qwL (K:KT) (n:Nat):(fun s0 c1=>evLP qoI n (sub qCv [1,0,0,0]) K (qJq s0 c1))=qnf (qoJ K) n:=by
 induction n
 kernel_rfl;rename_i n ih;show _=qrP (qoJ K) (qnf (qoJ K) n) n;rw[← ih];kernel_rfl
theorem qOq (n:Nat) (s0:LU) (o0:Lab) (c1:UInt8) (o1:Lab):evFnP qoI n qCv qOp [db s0 o0,dn c1 o1]=qyN n s0 c1:=by
 unfold qyN;rw[(Eq.trans (by kernel_rfl) (qwL (qJp n) n).symm:qnf (qrQ n) n=_)];kernel_rfl
theorem qwM:gG 121 s_z121:=sQ (E:=qoI) (c:=qCv) rfl fN func121 fun avs r h=>by
 unfold s_z121 at h;split at h
 ·obtain⟨hp,rfl⟩:=yj h;exact eX (qEy _ _ hp) fun n=>qOq n _ _ _ _
 ·cases h
def qoK:EnvP:=eQ [] 21 (some [2,3]) (fun x=>if x=2 then some [0,2,4] else none) (fun x=>if x=0 then some [2] else if x=1 then some [0,2,4] else none) nP
def qCw:Code:=cO f122
def qOr:Array ResultVar:=f122.results
noncomputable def qoL (K:KT):=fun as2 ok3=>K .ret (frOf [(2,(.box (.arr 256 .bool) as2)),(3,dg ok3)])
noncomputable def qoM (K:KT):=fun as2=>K (.exit 0) (frOf [(2,(.box (.arr 256 .bool) as2))])
def qJr (n:Nat):KT:=qn 0 (qoK.cutb 0) (kSeq (evCP qoK (evLP qoK n) (sub qCw [1,1])) (kFnP qoK qOr))
def qJs (chars0:LU) (as2:List Bool) (i4:Int):Fr:=frOf [(0,(df chars0 none)),(2,(.box (.arr 256 .bool) as2)),(4,dc i4)]
theorem qwN (K:KT) (n:Nat):(fun chars0 as2 i4=>evLP qoK n (sub qCw [1,0,1,0,0]) K (qJs chars0 as2 i4))=qgO (qoL K) (qoM K) n:=by
 induction n
 kernel_rfl;rename_i n ih;show _=qdH (qoL K) (qoM K) (qgO (qoL K) (qoM K) n) n;rw[← ih];kernel_rfl
theorem qOs (n:Nat) (chars0:LU) (o0:Lab):evFnP qoK n qCw qOr [df chars0 o0]=qyO n chars0:=by
 unfold qyO;rw[(Eq.trans (by kernel_rfl) (qwN (qJr n) n).symm:qgO qiz (qlj n) n=_)];kernel_rfl
theorem qwO:gG 122 s_z122:=sQ (E:=qoK) (c:=qCw) rfl fN func122 fun avs r h=>by
 unfold s_z122 at h;split at h
 ·obtain⟨hp,rfl⟩:=yj h;exact eX (qEv _ hp) fun n=>qOs n _ _
 ·cases h
theorem qmC:gG 151 s_z151:=sY [] 10 (some [4]) fN func151 fun avs r h=>by
 unfold s_z151 at h;split at h <;> cases h
 exact eX (qEw _ _)
def qoN:EnvP:=eQ [(151,s_z151)] 20 (some [1000004]) (fun x=>if x=1 then some [0,1] else none) (fun x=>if x=0 then some [0] else if x=1 then some [0,1] else none) nP
def qCx:Code:=cO f123
def qOt:Array ResultVar:=f123.results
noncomputable def qoO (K:KT):=fun s0=>K (.exit 0) (frOf [(0,da s0)])
def qJt (n:Nat):KT:=qn 0 (qoN.cutb 0) (kSeq (evCP qoN (evLP qoN n) (sub qCx [1,1])) (kFnP qoN qOt))
def qJu (s0:LU) (as1:List Bool):Fr:=frOf [(0,da s0),(1,(.adr (.arr 256 .bool) as1))]
theorem qwP (K:KT) (n:Nat):(fun s0 as1=>evLP qoN n (sub qCx [1,0,0,0]) K (qJu s0 as1))=qiA (qoO K) n:=by
 induction n
 kernel_rfl;rename_i n ih;show _=qhw (qoO K) (qiA (qoO K) n) n;rw[← ih];kernel_rfl
theorem qOu (n:Nat) (s0:LU) (o0:Lab) (as1:List Bool):evFnP qoN n qCx qOt [db s0 o0,.adr (.arr 256 .bool) as1]=qrR n s0 as1:=by
 unfold qrR;rw[(Eq.trans (by kernel_rfl) (qwP (qJt n) n).symm:qiA (qlk n) n=_)];kernel_rfl
theorem qwQ:gG 123 s_z123:=sQ (E:=qoN) (c:=qCx) rfl (fC qmC fN) func123 fun avs r h=>by
 unfold s_z123 at h;split at h
 ·obtain⟨hp,rfl⟩:=yj h;exact eX (qEA _ _ hp) fun n=>qOu n _ _ _
 ·cases h
def qoP:EnvP:=eQ [(151,s_z151)] 23 (some [4]) (fun x=>if x=1 then some [0,1] else none) (fun x=>if x=0 then some [0] else if x=1 then some [0,1] else none) nP
def qCy:Code:=cO f124
def qOv:Array ResultVar:=f124.results
noncomputable def qoQ (K:KT):=fun s0=>K (.exit 0) (frOf [(0,da s0)])
def qJv (n:Nat):KT:=qn 0 (qoP.cutb 0) (kSeq (evCP qoP (evLP qoP n) (sub qCy [1,1])) (kFnP qoP qOv))
def qJw (s0:LU) (as1:List Bool):Fr:=frOf [(0,da s0),(1,(.adr (.arr 256 .bool) as1))]
theorem qwR (K:KT) (n:Nat):(fun s0 as1=>evLP qoP n (sub qCy [1,0,0,0]) K (qJw s0 as1))=qiB (qoQ K) n:=by
 induction n
 kernel_rfl;rename_i n ih;show _=qhx (qoQ K) (qiB (qoQ K) n) n;rw[← ih];kernel_rfl
theorem qOw (n:Nat) (s0:LU) (o0:Lab) (as1:List Bool):evFnP qoP n qCy qOv [db s0 o0,.adr (.arr 256 .bool) as1]=qrT n s0 as1:=by
 unfold qrT;rw[(Eq.trans (by kernel_rfl) (qwR (qJv n) n).symm:qiB (qrS n) n=_)];kernel_rfl
theorem qwS:gG 124 s_z124:=sQ (E:=qoP) (c:=qCy) rfl (fC qmC fN) func124 fun avs r h=>by
 unfold s_z124 at h;split at h
 ·obtain⟨hp,rfl⟩:=yj h;exact eX (qEz _ _ hp) fun n=>qOw n _ _ _
 ·cases h
def E_z91:EnvP:=⟨⟨tiOf tis,fnsOf [(120,s_z120),(121,s_z121),(122,s_z122),(123,s_z123),(124,s_z124),(125,s_z125),(126,s_z126)],cnsOf [],[],42,(fun _=>none),(fun _=>none),some [1000004]⟩,fun _=>none,fun _=>none,(fun x=>if x=500009 then [5] else []),fun _=>none,fun _=>none,fun _=>none,fun _=>none⟩
def C_z91:Code:=cO f91
def R_z91:Array ResultVar:=f91.results
theorem qSl (n:Nat) (s0:LU) (o0:Lab) (cutset1:LU) (o1:Lab):evFnP E_z91 n C_z91 R_z91 [db s0 o0,df cutset1 o1]=qKz n s0 cutset1:=by
 kernel_rfl
theorem qCz:gG 91 s_z91:=sG (E:=E_z91) (fun w S hg=>⟨⟨(qv (qwK w S hg) (qv (qwM w S hg) (qv (qwO w S hg) (qv (qwQ w S hg) (qv (qwS w S hg) (qv (qww w S hg) (qv (qwx w S hg) qJ))))))),fun f sp h=>qI f sp h w S⟩,qW w S hg,(fun _ _ h=>by cases h),(fun f sp h=>qaj f sp h),(fun f it h=>qak f it h),(fun t kt vt h=>qR t kt vt h)⟩) func91 fun avs r h=>by
 unfold s_z91 at h;split at h
 ·obtain⟨hp,rfl⟩:=yj h;exact eX (qKT _ _ hp) fun n=>qSl n _ _ _ _
 ·cases h
theorem qCA:gG 63 s_z63:=sY [(20,s_z20),(91,s_z91)] 6 (some [2]) (fC qaO (fC qCz fN)) func63 fun avs r h=>by
 unfold s_z63 at h;split at h
 ·obtain⟨hp,rfl⟩:=yj h;exact eX (qKX _ hp)
 ·cases h
theorem qCB:gG 45 s_z45:=sY [(62,s_z62),(63,s_z63)] 13 (some [2]) (fC qrp (fC qCA fN)) func45 fun avs r h=>by
 unfold s_z45 at h;split at h
 ·obtain⟨hp,rfl⟩:=yj h;exact eX (qLb _ hp)
 ·cases h
def E_z29:EnvP:=⟨⟨tiOf tis,fnsOf [(37,s_z37),(45,s_z45)],cnsOf [],[],18,(fun _=>none),(fun _=>none),some [2,3]⟩,fun _=>none,fun _=>none,fun _=>[],fun _=>none,(fun x=>if x=44 then some s_z44 else none),fun _=>none,(fun x=>if x=81 then some (9,3) else none)⟩
def C_z29:Code:=cO f29
def R_z29:Array ResultVar:=f29.results
theorem qSm (n:Nat) (s0:LU) (o0:Lab):evFnP E_z29 n C_z29 R_z29 [db s0 o0]=qKA n s0:=by
 kernel_rfl
theorem qrq:gG 29 s_z29:=sG (E:=E_z29) (fun w S hg=>⟨⟨(qv (qfe w S hg) (qv (qCB w S hg) qJ)),fun f sp h=>qI f sp h w S⟩,qW w S hg,(fun _ _ h=>by cases h),(fun f sp h=>(qIs (qCt w S hg) qaj) f sp h),(fun f it h=>qak f it h),(fun t kt vt h=>(qoj (by kernel_rfl) qR) t kt vt h)⟩) func29 fun avs r h=>by
 unfold s_z29 at h;split at h
 ·obtain⟨hp,rfl⟩:=yj h;exact eX (qLg _ hp) fun n=>qSm n _ _
 ·cases h
theorem qwT:gG 143 s_z143:=fun w S hg vals avs r h hS ha=>by
 unfold s_z143 at h;split at h
 ·obtain⟨hp,rfl⟩:=yj h;exact qqy qrp (fun _ _ _ _=>rfl) hg hS ha hp
 ·cases h
theorem qmD:gG 109 s_z109:=sY [(143,s_z143)] 23 (some [4,1000005,6]) (fC qwT fN) func109 fun avs r h=>by
 unfold s_z109 at h;split at h
 ·obtain⟨hp,rfl⟩:=yj h;exact eX (qEP _ _ hp)
 ·cases h
theorem qCC:gG 81 s_z81:=sY [(20,s_z20),(109,s_z109)] 33 (some [2,3,4]) (fC qaO (fC qmD fN)) func81 fun avs r h=>by
 unfold s_z81 at h;split at h
 ·obtain⟨hp,rfl⟩:=yj h;exact eX (qMi _ hp)
 ·cases h
def qOx:EnvP:=eQ [] 9 (some [11]) nC nC (fun x=>if x=5 then some (.osl 5 .byte) else if x=8 then some (.osl 5 .byte) else none)
def qSn:Code:=cO f145
def qSo:Array ResultVar:=f145.results
theorem qOy (n:Nat) (c0:UInt8) (o0:Lab) (x1:Bool) (o1:Lab) (x2:LU):evFnM qOx n qSn qSo [dn c0 o0,dh x1 o1,.pbox (.osl 5 .byte) x2 none]=qyU n c0 x1 x2:=by
 kernel_rfl
theorem qwU:qjl G prog 145 s_z145:=sM (E:=qOx) (fun w S hg=>⟨⟨qJ,fun f sp h=>qI f sp h w S⟩,qW w S hg,(fun _ _ h=>by cases h),(fun f sp h=>qaj f sp h),(fun f it h=>qak f it h),(fun t kt vt h=>qR t kt vt h)⟩) func145 fun avs r h=>by
 unfold s_z145 at h;split at h
 ·obtain⟨hp,rfl⟩:=yj h;obtain⟨n,hn⟩:=qFx _ _ _ hp;exact⟨n,(qOy n _ _ _ _ _).trans hn⟩
 ·cases h
theorem qwV:gG 183 s_z183:=sZ [(30,s_z30),(35,s_z35)] 23 (some [2,3]) nC (fun x=>if x=0 then some [] else none) nP (fC qla (fC qfd fN)) func183 fun avs r h=>by
 unfold s_z183 at h;split at h <;> cases h
 exact eX (qEB _)
theorem qwW:gG 176 s_z176:=sY [(183,s_z183)] 31 (some [4,5]) (fC qwV fN) func176 fun avs r h=>by
 unfold s_z176 at h;split at h <;> cases h
 exact eX (qEC _ _)
theorem qwX:gG 166 s_z166:=sY [(176,s_z176)] 38 (some [6,7]) (fC qwW fN) func166 fun avs r h=>by
 unfold s_z166 at h;split at h
 ·obtain⟨hp,rfl⟩:=yj h;exact eX (qED _ _ _ hp)
 ·cases h
def qwY:EnvP:=⟨⟨tiOf tis,fnsOf [(166,s_z166)],cnsOf [],[],32,(fun x=>if x=1 then some [0,1,4,33] else none),(fun x=>if x=0 then some [33] else if x=1 then some [0,1,4,33] else none),some [33]⟩,fun _=>none,fun _=>none,fun _=>[],(fun x=>if x=145 then some s_z145 else none),fun _=>none,fun _=>none,fun _=>none⟩
def qOz:Code:=cO f144
def qOA:Array ResultVar:=f144.results
noncomputable def qoR (K:KT):=fun s33=>K (.exit 0) (frOf [(33,(.pbox (.osl 5 .byte) s33 none))])
def qJx (s0:LU) (f1:LU):KT:=qn 0 (qwY.cutb 0) (kFnM qwY qOA [db s0 none,.fn 145 [.pbox (.osl 5 .byte) f1 none]])
def qJy (s0:LU) (at4:Int) (s33:LU):Fr:=frOf [(0,da s0),(1,(.padr 33 [.clo 145 false])),(4,dc at4),(33,(.pbox (.osl 5 .byte) s33 none))]
theorem qmE (K:KT) (n:Nat):(fun s0 at4 s33=>evLP qwY n (sub qOz [1,0,0]) K (qJy s0 at4 s33))=qcm (qoR K) n:=by
 induction n
 kernel_rfl;rename_i n ih;show _=qcK (qoR K) (qcm (qoR K) n) n;rw[← ih];kernel_rfl
theorem qwZ (n:Nat) (s0:LU) (o0:Lab) (f1:LU):evFnM qwY n qOz qOA [db s0 o0,.fn 145 [.pbox (.osl 5 .byte) f1 none]]=qiF n s0 f1:=by
 unfold qiF;rw[(Eq.trans (by kernel_rfl) (qmE (qJx s0 f1) n).symm:qcm (qes n) n=_)];kernel_rfl
theorem qxa:qjl G prog 144 s_z144:=sM (E:=qwY) (fun w S hg=>⟨⟨(qv (qwX w S hg) qJ),fun f sp h=>qI f sp h w S⟩,qW w S hg,(fun f sp h=>(qda (qwU w S hg) qgI) f sp h),(fun _ _ h=>by cases h),(fun _ _ h=>by cases h),(fun t kt vt h=>qR t kt vt h)⟩) func144 fun avs r h=>by
 unfold s_z144 at h;split at h
 ·obtain⟨hp,rfl⟩:=yj h;obtain⟨n,hn⟩:=qqo _ _ hp;exact⟨n,(qwZ n _ _ _).trans hn⟩
 ·cases h
def qOB:EnvP:=⟨⟨tiOf tis,fnsOf [],cnsOf [],[],8,(fun _=>none),(fun _=>none),some [2]⟩,(fun x=>if x=3 then some (.osl 5 .byte) else none),fun _=>none,fun _=>[],(fun x=>if x=144 then some s_z144 else none),fun _=>none,fun _=>none,fun _=>none⟩
def qSp:Code:=cO f110
def qSq:Array ResultVar:=f110.results
theorem qOC (n:Nat) (s0:LU) (o0:Lab):evFnP qOB n qSp qSq [db s0 o0]=qyW n s0:=by
 kernel_rfl
theorem qxb:gG 110 s_z110:=sG (E:=qOB) (fun w S hg=>⟨⟨qJ,fun f sp h=>qI f sp h w S⟩,qW w S hg,(fun f sp h=>(qda (qxa w S hg) qgI) f sp h),(fun f sp h=>qaj f sp h),(fun f it h=>qak f it h),(fun t kt vt h=>qR t kt vt h)⟩) func110 fun avs r h=>by
 unfold s_z110 at h;split at h
 ·obtain⟨hp,rfl⟩:=yj h;exact eX (qFy _ hp) fun n=>qOC n _ _
 ·cases h
theorem qCD:gG 83 s_z83:=sY [(110,s_z110)] 10 (some [2]) (fC qxb fN) func83 fun avs r h=>by
 unfold s_z83 at h;split at h
 ·obtain⟨hp,rfl⟩:=yj h;exact eX (qMm _ hp)
 ·cases h
def qOD:EnvP:=eQ [] 11 (some [13]) nC nC (fun x=>if x=7 then some (.osl 21 (.int .i32)) else if x=10 then some (.osl 21 (.int .i32)) else none)
def qSr:Code:=cO f116
def qSs:Array ResultVar:=f116.results
theorem qOE (n:Nat) (c0:Int) (o0:Lab) (e1:Int) (o1:Lab) (x2:LI):evFnM qOD n qSr qSs [di c0 o0,de e1 o1,.pbox (.osl 21 (.int .i32)) x2 none]=qyX n c0 e1 x2:=by
 kernel_rfl
theorem qxc:qjl G prog 116 s_z116:=sM (E:=qOD) (fun w S hg=>⟨⟨qJ,fun f sp h=>qI f sp h w S⟩,qW w S hg,(fun _ _ h=>by cases h),(fun f sp h=>qaj f sp h),(fun f it h=>qak f it h),(fun t kt vt h=>qR t kt vt h)⟩) func116 fun avs r h=>by
 unfold s_z116 at h;split at h
 ·obtain⟨hp,rfl⟩:=yj h;obtain⟨n,hn⟩:=qEO _ _ _ hp;exact⟨n,(qOE n _ _ _ _ _).trans hn⟩
 ·cases h
end
end
end Go.Av
