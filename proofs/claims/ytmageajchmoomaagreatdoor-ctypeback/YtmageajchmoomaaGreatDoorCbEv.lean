import Derived.Test.YtmageajchmoomaaGreatDoorCbEvF
import Derived.Test.YtmageajchmoomaaGreatDoorCbD
import Derived.Test.YtmageajchmoomaaGreatDoorAvE
import Derived.Test.YtmageajchmoomaaGreatDoorProg
import Derived.KernelRfl
namespace Go.Av
set_option linter.unusedSimpArgs false
set_option linter.unusedVariables false
section
noncomputable section
open Go.Proofs Go.Proofs.Tryz
set_option maxRecDepth 100000
set_option linter.unusedVariables false
def qNG:EnvP:=eQ [] 15 (some [2]) nC nC nP
def qNH:Code:=cO f171
def qRO:Array ResultVar:=f171.results
theorem qNI (n:Nat) (i0:Int) (o0:Lab):evFnP qNG n qNH qRO [de i0 o0]=qjZ n i0:=by
 kernel_rfl
theorem qtV:qcZ Any prog 171 s_z171:=by
 refine qdf qBa (E:=qNG) (fn:=f171) (c:=qNH) (qq rfl qcX) (fun w S hg=>⟨⟨qJ,fun f sp h=>qI f sp h w S⟩,glAny w S hg,(fun _ _ h=>by cases h),(fun f sp h=>qaj f sp h),(fun f it h=>qak f it h),(fun t kt vt h=>qR t kt vt h)⟩) follows func171 (by kernel_rfl) (by kernel_rfl) (by kernel_rfl) ?_;intro avs r h;unfold s_z171 at h;split at h
 ·obtain⟨hp,rfl⟩:=yj h;exact eX (qFq _ hp) fun n=>qNI n _ _
 ·cases h
def qNJ:EnvP:=eQ [(171,s_z171),(172,s_z172),(174,s_z174)] 36 (some [6]) nC nC nP
def qNK:Code:=cO f161
def qRP:Array ResultVar:=f161.results
theorem qNL (n:Nat) (dst0:LU) (i1:Int) (o1:Lab) (base2:Int) (o2:Lab):evFnC qNJ.toEnv n qNK qRP [db dst0 (some (0,5)),.dat (.int .u64) i1 o1,de base2 o2]=qzz n dst0 i1 base2:=by
 kernel_rfl
theorem qwn:qlR prog 161 s_z161:=by
 refine qek (E:=qNJ.toEnv) (fn:=f161) (c:=qNK) (qq rfl qcX) (fun w S=>⟨(qv (qtV w S trivial) (qv (qtW w S trivial) (qv (qtX w S trivial) qJ))),fun f sp h=>qI f sp h w S⟩) follows func161 (by kernel_rfl) (by kernel_rfl) (by kernel_rfl) ?_;intro avs r h;unfold s_z161 at h;split at h
 ·obtain⟨hp,rfl⟩:=yj h;obtain⟨n,hn⟩:=qFr _ _ _ hp;exact⟨n,(qNL n _ _ _ _ _).trans hn⟩
 ·cases h
def qNM:EnvP:=⟨⟨tiOf tis,fnsOf [],cnsOf [(161,s_z161)],[],21,(fun _=>none),(fun _=>none),some [6]⟩,fun _=>none,fun _=>none,fun _=>[],fun _=>none,fun _=>none,fun _=>none,fun _=>none⟩
def qNN:Code:=cO f141
def qRQ:Array ResultVar:=f141.results
theorem qNO (n:Nat) (dst0:LU) (i1:Int) (o1:Lab) (base2:Int) (o2:Lab):evFnC qNM.toEnv n qNN qRQ [db dst0 (some (0,5)),de i1 o1,de base2 o2]=qzA n dst0 i1 base2:=by
 kernel_rfl
theorem qwo:qlR prog 141 s_z141:=by
 refine qek (E:=qNM.toEnv) (fn:=f141) (c:=qNN) (qq rfl qcX) (fun w S=>⟨qJ,fun f sp h=>(qog qwn qI) f sp h w S⟩) follows func141 (by kernel_rfl) (by kernel_rfl) (by kernel_rfl) ?_;intro avs r h;unfold s_z141 at h;split at h
 ·obtain⟨hp,rfl⟩:=yj h;obtain⟨n,hn⟩:=qFs _ _ _ hp;exact⟨n,(qNO n _ _ _ _ _).trans hn⟩
 ·cases h
def qNP:EnvP:=⟨⟨tiOf tis,fnsOf [],cnsOf [(141,s_z141)],[],11,(fun _=>none),(fun _=>none),some [6]⟩,fun _=>none,fun _=>none,fun _=>[],fun _=>none,fun _=>none,fun _=>none,fun _=>none⟩
def qNQ:Code:=cO f107
def qRR:Array ResultVar:=f107.results
theorem qNR (n:Nat) (dst0:LU) (i1:Int) (o1:Lab) (base2:Int) (o2:Lab):evFnC qNP.toEnv n qNQ qRR [db dst0 (some (0,5)),de i1 o1,de base2 o2]=qzC n dst0 i1 base2:=by
 kernel_rfl
theorem qwp:qlR prog 107 s_z107:=by
 refine qek (E:=qNP.toEnv) (fn:=f107) (c:=qNQ) (qq rfl qcX) (fun w S=>⟨qJ,fun f sp h=>(qog qwo qI) f sp h w S⟩) follows func107 (by kernel_rfl) (by kernel_rfl) (by kernel_rfl) ?_;intro avs r h;unfold s_z107 at h;split at h
 ·obtain⟨hp,rfl⟩:=yj h;obtain⟨n,hn⟩:=qFt _ _ _ hp;exact⟨n,(qNR n _ _ _ _ _).trans hn⟩
 ·cases h
def E_z74:EnvP:=⟨⟨tiOf tis,fnsOf [(20,s_z20)],cnsOf [(107,s_z107)],[],22,(fun _=>none),(fun _=>none),some [2]⟩,fun _=>none,fun _=>none,fun _=>[],fun _=>none,fun _=>none,fun _=>none,fun _=>none⟩
def C_z74:Code:=cO f74
def R_z74:Array ResultVar:=f74.results
theorem qRS (n:Nat) (p0:LU×(Int×(Bool×(LU×Unit)))) (o0:Lab):evFnP E_z74 n C_z74 R_z74 [.dat (.pair (.sl .byte) (.pair (.int .i64) (.pair .bool (.pair (.sl .byte) .unit)))) p0 o0]=qKF n p0:=by
 kernel_rfl
theorem qBL:gG 74 s_z74:=sG (E:=E_z74) (fun w S hg=>⟨⟨(qv (qaO w S hg) qJ),fun f sp h=>(qog qwp qI) f sp h w S⟩,qW w S hg,(fun _ _ h=>by cases h),(fun f sp h=>qaj f sp h),(fun f it h=>qak f it h),(fun t kt vt h=>qR t kt vt h)⟩) func74 fun avs r h=>by
 unfold s_z74 at h;split at h
 ·obtain⟨hp,rfl⟩:=yj h;exact eX (qLF _ hp) fun n=>qRS n _ _
 ·cases h
theorem qBM:gG 75 s_z75:=sY [(61,s_z61)] 12 (some [2]) (fC qrn fN) func75 fun avs r h=>by
 unfold s_z75 at h;split at h <;> cases h
 exact eX (qLi _)
theorem qkZ:gG 51 s_z51:=sY [(74,s_z74),(75,s_z75)] 22 (some [6]) (fC qBL (fC qBM fN)) func51 fun avs r h=>by
 unfold s_z51 at h;split at h
 ·obtain⟨hp,rfl⟩:=yj h;exact eX (qLG _ _ _ hp)
 ·cases h
def E_z77:EnvP:=eQ [(51,s_z51)] 29 (some [30,31,32,33,34]) nC nC (fun x=>if x=19 then some (.psl 22 (.osl 5 .byte)) else if x=20 then some (.psl 22 (.osl 5 .byte)) else if x=28 then some (.osl 5 .byte) else none)
def C_z77:Code:=cO f77
def R_z77:Array ResultVar:=f77.results
theorem qRT (n:Nat) (u0:LU) (o0:Lab) (x1:Bool) (x2:LU) (x3:List LU) (x4:LU) (x5:Int):evFnM E_z77 n C_z77 R_z77 [db u0 o0,.pbox (.leaf .bool) x1 none,.pbox (.osl 5 .byte) x2 none,.pbox (.psl 22 (.osl 5 .byte)) x3 none,.pbox (.leaf (.sl .byte)) x4 none,.pbox (.leaf (.int .i64)) x5 none]=qKG n u0 x1 x2 x3 x4 x5:=by
 kernel_rfl
theorem qBN:qjl G prog 77 s_z77:=sM (E:=E_z77) (fun w S hg=>⟨⟨(qv (qkZ w S hg) qJ),fun f sp h=>qI f sp h w S⟩,qW w S hg,(fun _ _ h=>by cases h),(fun f sp h=>qaj f sp h),(fun f it h=>qak f it h),(fun t kt vt h=>qR t kt vt h)⟩) func77 fun avs r h=>by
 unfold s_z77 at h;split at h
 ·obtain⟨hp,rfl⟩:=yj h;obtain⟨n,hn⟩:=qLP _ _ _ _ _ _ hp;exact⟨n,(qRT n _ _ _ _ _ _ _).trans hn⟩
 ·cases h
def E_z53:EnvP:=⟨⟨tiOf tis,fnsOf [(51,s_z51)],cnsOf [],[],31,(fun x=>if x=6 then some [3,4,7,8,9,10,17,18,19] else if x=3999998 then some [8] else none),(fun x=>if x=0 then some [7,8] else if x=1 then some [3,4,7,8,9,10,17,18,19] else none),some [6]⟩,(fun x=>if x=3 then some (.leaf (.sl .byte)) else if x=4 then some (.leaf (.int .i64)) else if x=7 then some (.psl 22 (.osl 5 .byte)) else if x=8 then some (.osl 5 .byte) else if x=9 then some (.leaf .bool) else if x=29 then some (.psl 22 (.osl 5 .byte)) else if x=30 then some (.psl 22 (.osl 5 .byte)) else none),fun _=>none,fun _=>[],(fun x=>if x=77 then some s_z77 else none),fun _=>none,fun _=>none,fun _=>none⟩
def C_z53:Code:=cO f53
def R_z53:Array ResultVar:=f53.results
noncomputable def X_z77 (K:KT):=fun out7 now8=>K (.exit 0) (frOf [(7,(.pbox (.psl 22 (.osl 5 .byte)) out7 none)),(8,(.pbox (.osl 5 .byte) now8 none))])
def qNS (n:Nat):KT:=qn 0 (E_z53.cutb 0) (kSeq (evCP E_z53 (evLP E_z53 n) (sub C_z53 [1,1,1,1,1,1])) (kFnP E_z53 R_z53))
def qNT (name3:LU) (charset4:Int) (out7:List LU) (now8:LU) (empty9:Bool) (s17:List LU) (s18:Int) (s19:Int):Fr:=frOf [(3,(.pbox (.leaf (.sl .byte)) name3 none)),(4,(.pbox (.leaf (.int .i64)) charset4 none)),(7,(.pbox (.psl 22 (.osl 5 .byte)) out7 none)),(8,(.pbox (.osl 5 .byte) now8 none)),(9,(.pbox (.leaf .bool) empty9 none)),(10,(.clom 77 [9,8,7,3,4])),(17,(.dat (.sl (.sl .byte)) s17 none)),(18,dc s18),(19,dc s19)]
theorem qBO (K:KT) (n:Nat):(fun name3 charset4 out7 now8 empty9 s17 s18 s19=>evLP E_z53 n (sub C_z53 [1,1,1,1,1,0,1,0,0]) K (qNT name3 charset4 out7 now8 empty9 s17 s18 s19))=qut (X_z77 K) n:=by
 induction n
 kernel_rfl;rename_i n ih;show _=qgu (X_z77 K) (qut (X_z77 K) n) n;rw[← ih];kernel_rfl
theorem qRU (n:Nat) (name0:LU) (o0:Lab) (charset1:Int) (o1:Lab) (l2:List LU) (o2:Lab):evFnP E_z53 n C_z53 R_z53 [db name0 o0,de charset1 o1,.dat (.sl (.sl .byte)) l2 o2]=qEk n name0 charset1 l2:=by
 unfold qEk;rw[(Eq.trans (by kernel_rfl) (qBO (qNS n) n).symm:qut (qlw n) n=_)];kernel_rfl
theorem qBP:gG 53 s_z53:=sG (E:=E_z53) (fun w S hg=>⟨⟨(qv (qkZ w S hg) qJ),fun f sp h=>qI f sp h w S⟩,qW w S hg,(fun f sp h=>(qda (qBN w S hg) qgI) f sp h),(fun f sp h=>qaj f sp h),(fun f it h=>qak f it h),(fun t kt vt h=>qR t kt vt h)⟩) func53 fun avs r h=>by
 unfold s_z53 at h;split at h
 ·obtain⟨hp,rfl⟩:=yj h;exact eX (qLQ _ _ _ hp) fun n=>qRU n _ _ _ _ _ _
 ·cases h
theorem qBQ:gG 32 s_z32:=sY [(47,s_z47),(48,s_z48),(49,s_z49),(50,s_z50),(51,s_z51),(52,s_z52),(53,s_z53)] 54 (some [1000004,5]) (fC qDq (fC qDz (fC qDG (fC qDQ (fC qkZ (fC qCe (fC qBP fN))))))) func32 fun avs r h=>by
 unfold s_z32 at h;split at h
 ·obtain⟨hp,rfl⟩:=yj h;exact eX (qLR _ _ hp)
 ·cases h
def E_z21:EnvP:=eQ [(32,s_z32)] 30 (some [4,5]) (fun x=>if x=4 then some [7,8,17,18,19] else none) (fun x=>if x=0 then some [7,8] else if x=1 then some [7,8,17,18,19] else none) nP
def C_z21:Code:=cO f21
def R_z21:Array ResultVar:=f21.results
noncomputable def qwq (K:KT):=fun e7 out8=>K (.exit 0) (frOf [(7,dc e7),(8,(db out8 (some (8,5))))])
def qNU (n:Nat):KT:=qn 0 (E_z21.cutb 0) (kSeq (evCP E_z21 (evLP E_z21 n) (sub C_z21 [1,1,1,1])) (kFnP E_z21 R_z21))
def qNV (e7:Int) (out8:LU) (s17:List LU) (s18:Int) (s19:Int):Fr:=frOf [(7,dc e7),(8,(db out8 (some (8,5)))),(17,(.dat (.sl (.sl .byte)) s17 none)),(18,dc s18),(19,dc s19)]
theorem qBR (K:KT) (n:Nat):(fun e7 out8 s17 s18 s19=>evLP E_z21 n (sub C_z21 [1,1,1,0,1,0,0]) K (qNV e7 out8 s17 s18 s19))=quu (qwq K) n:=by
 induction n
 kernel_rfl;rename_i n ih;show _=qgv (qwq K) (quu (qwq K) n) n;rw[← ih];kernel_rfl
theorem qRV (n:Nat) (name0:LU) (o0:Lab) (t1:LI) (o1:Lab):evFnP E_z21 n C_z21 R_z21 [db name0 o0,.dat (.sl (.int .i32)) t1 o1]=qEl n name0 t1:=by
 unfold qEl;rw[(Eq.trans (by kernel_rfl) (qBR (qNU n) n).symm:quu (qlx n) n=_)];kernel_rfl
theorem qBS:gG 21 s_z21:=sQ (E:=E_z21) (c:=C_z21) rfl (fC qBQ fN) func21 fun avs r h=>by
 unfold s_z21 at h;split at h
 ·obtain⟨hp,rfl⟩:=yj h;exact eX (qLS _ _ hp) fun n=>qRV n _ _ _ _
 ·cases h
def E_z11:EnvP:=eQ [(19,s_z19),(20,s_z20),(21,s_z21)] 50 (some [2,3]) (fun x=>if x=5 then some [4,28,29,30] else none) (fun x=>if x=0 then some [4] else if x=1 then some [4,28,29,30] else none) nP
def C_z11:Code:=cO f11
def R_z11:Array ResultVar:=f11.results
noncomputable def qwr (K:KT):=fun s2 s3=>K .ret (frOf [(2,(db s2 (some (2,5)))),(3,dc s3)])
noncomputable def qws (K:KT):=fun out4=>K (.exit 0) (frOf [(4,(db out4 (some (4,5))))])
def qNW (n:Nat):KT:=qn 0 (E_z11.cutb 0) (kSeq (evCP E_z11 (evLP E_z11 n) (sub C_z11 [1,1,1,1])) (kFnP E_z11 R_z11))
def qNX (out4:LU) (s28:List (LU×(LI×Unit))) (s29:Int) (s30:Int):Fr:=frOf [(4,(db out4 (some (4,5)))),(28,(.dat (.sl (.pair (.sl .byte) (.pair (.sl (.int .i32)) .unit))) s28 none)),(29,dc s29),(30,dc s30)]
theorem qBT (K:KT) (n:Nat):(fun out4 s28 s29 s30=>evLP E_z11 n (sub C_z11 [1,1,1,0,1,0,0]) K (qNX out4 s28 s29 s30))=qnt (qwr K) (qws K) n:=by
 induction n
 kernel_rfl;rename_i n ih;show _=qgw (qwr K) (qws K) (qnt (qwr K) (qws K) n) n;rw[← ih];kernel_rfl
theorem qRW (n:Nat) (t0:LU×(LU×((List (LU×(LI×Unit)))×Unit))) (o0:Lab):evFnP E_z11 n C_z11 R_z11 [.dat (.pair (.sl .byte) (.pair (.sl .byte) (.pair (.sl (.pair (.sl .byte) (.pair (.sl (.int .i32)) .unit))) .unit))) t0 o0]=qEm n t0:=by
 unfold qEm qhK;rw[(Eq.trans (by kernel_rfl) (qBT (qNW n) n).symm:qnt qzm (qez n) n=_)];kernel_rfl
theorem qBU:gG 11 s_z11:=sQ (E:=E_z11) (c:=C_z11) rfl (fC qrv (fC qaO (fC qBS fN))) func11 fun avs r h=>by
 unfold s_z11 at h;split at h
 ·obtain⟨hp,rfl⟩:=yj h;exact eX (qKt _ hp) fun n=>qRW n _ _
 ·cases h
def E_z26:EnvP:=eQ [] 26 (some [4]) (fun x=>if x=4 then some [0,1,5] else none) (fun x=>if x=0 then some [] else if x=1 then some [0,1,5] else none) nP
def C_z26:Code:=cO f26
def R_z26:Array ResultVar:=f26.results
noncomputable def qwt (K:KT):=fun s4=>K .ret (frOf [(4,dg s4)])
def qNY (n:Nat):KT:=qn 0 (E_z26.cutb 0) (kSeq (evCP E_z26 (evLP E_z26 n) (sub C_z26 [1,1,1])) (kFnP E_z26 R_z26))
def qNZ (a0:LI) (b1:LI) (i5:Int):Fr:=frOf [(0,(.dat (.sl (.int .i32)) a0 none)),(1,(.dat (.sl (.int .i32)) b1 none)),(5,dc i5)]
theorem qBV (K:KT) (n:Nat):(fun a0 b1 i5=>evLP E_z26 n (sub C_z26 [1,1,0,1,0,0]) K (qNZ a0 b1 i5))=qnu (qwt K) (K (.exit 0) (frOf [])) n:=by
 induction n
 kernel_rfl;rename_i n ih;show _=qgx (qwt K) (K (.exit 0) (frOf [])) (qnu (qwt K) (K (.exit 0) (frOf [])) n) n;rw[← ih];kernel_rfl
theorem qRX (n:Nat) (a0:LI) (o0:Lab) (b1:LI) (o1:Lab):evFnP E_z26 n C_z26 R_z26 [.dat (.sl (.int .i32)) a0 o0,.dat (.sl (.int .i32)) b1 o1]=qEn n a0 b1:=by
 unfold qEn;rw[(Eq.trans (by kernel_rfl) (qBV (qNY n) n).symm:qnu qga (qzF n) n=_)];kernel_rfl
theorem qBW:gG 26 s_z26:=sQ (E:=E_z26) (c:=C_z26) rfl fN func26 fun avs r h=>by
 unfold s_z26 at h;split at h
 ·obtain⟨hp,rfl⟩:=yj h;exact eX (qLd _ _ hp) fun n=>qRX n _ _ _ _
 ·cases h
def E_z13:EnvP:=eQ [(7,s_z7),(26,s_z26)] 66 (some [4]) (fun x=>if x=4 then some [2,3,31,32] else none) (fun x=>if x=0 then some [] else if x=1 then some [2,3,31,32] else none) nP
def C_z13:Code:=cO f13
def R_z13:Array ResultVar:=f13.results
noncomputable def qwu (K:KT):=fun s4=>K .ret (frOf [(4,dg s4)])
def qOa (n:Nat):KT:=qn 0 (E_z13.cutb 0) (kSeq (evCP E_z13 (evLP E_z13 n) (sub C_z13 [1,1,1])) (kFnP E_z13 R_z13))
def qOb (a2:LU×(LU×((List (LU×(LI×Unit)))×Unit))) (b3:LU×(LU×((List (LU×(LI×Unit)))×Unit))) (s31:Int) (s32:Int):Fr:=frOf [(2,(.adr (.pair (.sl .byte) (.pair (.sl .byte) (.pair (.sl (.pair (.sl .byte) (.pair (.sl (.int .i32)) .unit))) .unit))) a2)),(3,(.adr (.pair (.sl .byte) (.pair (.sl .byte) (.pair (.sl (.pair (.sl .byte) (.pair (.sl (.int .i32)) .unit))) .unit))) b3)),(31,dc s31),(32,dc s32)]
theorem qBX (K:KT) (n:Nat):(fun a2 b3 s31 s32=>evLP E_z13 n (sub C_z13 [1,1,0,1,0,0]) K (qOb a2 b3 s31 s32))=qnv (qwu K) (K (.exit 0) (frOf [])) n:=by
 induction n
 kernel_rfl;rename_i n ih;show _=qgy (qwu K) (K (.exit 0) (frOf [])) (qnv (qwu K) (K (.exit 0) (frOf [])) n) n;rw[← ih];kernel_rfl
theorem qRY (n:Nat) (a0:LU×(LU×((List (LU×(LI×Unit)))×Unit))) (o0:Lab) (b1:LU×(LU×((List (LU×(LI×Unit)))×Unit))) (o1:Lab):evFnP E_z13 n C_z13 R_z13 [.dat (.pair (.sl .byte) (.pair (.sl .byte) (.pair (.sl (.pair (.sl .byte) (.pair (.sl (.int .i32)) .unit))) .unit))) a0 o0,.dat (.pair (.sl .byte) (.pair (.sl .byte) (.pair (.sl (.pair (.sl .byte) (.pair (.sl (.int .i32)) .unit))) .unit))) b1 o1]=qEo n a0 b1:=by
 unfold qEo;rw[(Eq.trans (by kernel_rfl) (qBX (qOa n) n).symm:qnv qga (qeA n) n=_)];kernel_rfl
theorem qBY:gG 13 s_z13:=sQ (E:=E_z13) (c:=C_z13) rfl (fC qxI (fC qBW fN)) func13 fun avs r h=>by
 unfold s_z13 at h;split at h
 ·obtain⟨hp,rfl⟩:=yj h;exact eX (qKu _ _ hp) fun n=>qRY n _ _ _ _
 ·cases h
def E_z4:EnvP:=eQ [(5,s_z5),(6,s_z6),(7,s_z7),(8,s_z8),(10,s_z10),(11,s_z11),(12,s_z12),(13,s_z13)] 87 (some [2]) (fun x=>if x=8 then some [1,3,5,36,37,38] else if x=11 then some [1,3,5,7,36,37,38,43,44] else none) (fun x=>if x=0 then some [3,5] else if x=1 then some [1,3,5,36,37,38] else if x=2 then some [1,3,5,7,36,37,38] else if x=3 then some [1,3,5,7,36,37,38,43,44] else none) (fun x=>if x=5 then some (.ppair (.leaf (.sl .byte)) (.ppair (.leaf (.sl .byte)) (.ppair (.osl 41 (.pair (.sl .byte) (.pair (.sl (.int .i32)) .unit))) (.leaf .unit)))) else if x=34 then some (.ppair (.leaf (.sl .byte)) (.ppair (.leaf (.sl .byte)) (.ppair (.osl 41 (.pair (.sl .byte) (.pair (.sl (.int .i32)) .unit))) (.leaf .unit)))) else if x=69 then some (.osl 41 (.pair (.sl .byte) (.pair (.sl (.int .i32)) .unit))) else none)
def C_z4:Code:=cO f4
def R_z4:Array ResultVar:=f4.results
noncomputable def qJf (K:KT):=fun t1 s3 want5 p7 s36 s37 s38=>K (.exit 2) (frOf [(1,(.adr (.pair (.sl .byte) (.pair (.sl .byte) (.pair (.sl (.pair (.sl .byte) (.pair (.sl (.int .i32)) .unit))) .unit))) t1)),(3,da s3),(5,(.pbox (.ppair (.leaf (.sl .byte)) (.ppair (.leaf (.sl .byte)) (.ppair (.osl 41 (.pair (.sl .byte) (.pair (.sl (.int .i32)) .unit))) (.leaf .unit)))) want5 none)),(7,(.box (.pair (.sl .byte) (.pair (.sl (.int .i32)) .unit)) p7)),(36,(.dat (.sl (.pair (.sl .byte) (.pair (.sl (.int .i32)) .unit))) s36 none)),(37,dc s37),(38,dc s38)])
noncomputable def qmB (K:KT):=fun s2=>K .ret (frOf [(2,dg s2)])
def qRZ (s3:LU) (want5:LU×(LU×((List (LU×(LI×Unit)))×Unit))):Fr:=frOf [(3,da s3),(5,(.pbox (.ppair (.leaf (.sl .byte)) (.ppair (.leaf (.sl .byte)) (.ppair (.osl 41 (.pair (.sl .byte) (.pair (.sl (.int .i32)) .unit))) (.leaf .unit)))) want5 none))]
noncomputable def qBZ (K:KT):=fun s3 want5=>K (.exit 0) (qRZ s3 want5)
def qSa (n:Nat) (K:KT):KT:=qn 2 (E_z4.cutb 2) (kSeq (evCP E_z4 (evLP E_z4 n) (sub C_z4 [1,1,1,1,1,0,1,0,0,1,1,0,0,1,1])) (qn 1 (E_z4.cutb 1) (kSeq (evCP E_z4 (evLP E_z4 n) (sub C_z4 [1,1,1,1,1,0,1,0,0,1,1,1])) (kSeq (fun K fr=>evLP E_z4 n (sub C_z4 [1,1,1,1,1,0,1,0,0]) K (cutFP (E_z4.cuts 8) fr)) K))))
def qSb (n:Nat):KT:=qn 0 (E_z4.cutb 0) (kSeq (evCP E_z4 (evLP E_z4 n) (sub C_z4 [1,1,1,1,1,1])) (kFnP E_z4 R_z4))
def qSc (t1:LU×(LU×((List (LU×(LI×Unit)))×Unit))) (s3:LU) (want5:LU×(LU×((List (LU×(LI×Unit)))×Unit))) (p7:LU×(LI×Unit)) (s36:List (LU×(LI×Unit))) (s37:Int) (s38:Int) (s43:Int) (s44:Int):Fr:=frOf [(1,(.adr (.pair (.sl .byte) (.pair (.sl .byte) (.pair (.sl (.pair (.sl .byte) (.pair (.sl (.int .i32)) .unit))) .unit))) t1)),(3,da s3),(5,(.pbox (.ppair (.leaf (.sl .byte)) (.ppair (.leaf (.sl .byte)) (.ppair (.osl 41 (.pair (.sl .byte) (.pair (.sl (.int .i32)) .unit))) (.leaf .unit)))) want5 none)),(7,(.box (.pair (.sl .byte) (.pair (.sl (.int .i32)) .unit)) p7)),(36,(.dat (.sl (.pair (.sl .byte) (.pair (.sl (.int .i32)) .unit))) s36 none)),(37,dc s37),(38,dc s38),(43,dc s43),(44,dc s44)]
def qOc (t1:LU×(LU×((List (LU×(LI×Unit)))×Unit))) (s3:LU) (want5:LU×(LU×((List (LU×(LI×Unit)))×Unit))) (s36:List (LU×(LI×Unit))) (s37:Int) (s38:Int):Fr:=frOf [(1,(.adr (.pair (.sl .byte) (.pair (.sl .byte) (.pair (.sl (.pair (.sl .byte) (.pair (.sl (.int .i32)) .unit))) .unit))) t1)),(3,da s3),(5,(.pbox (.ppair (.leaf (.sl .byte)) (.ppair (.leaf (.sl .byte)) (.ppair (.osl 41 (.pair (.sl .byte) (.pair (.sl (.int .i32)) .unit))) (.leaf .unit)))) want5 none)),(36,(.dat (.sl (.pair (.sl .byte) (.pair (.sl (.int .i32)) .unit))) s36 none)),(37,dc s37),(38,dc s38)]
theorem qCa (K:KT) (n:Nat):(fun t1 s3 want5 p7 s36 s37 s38 s43 s44=>evLP E_z4 n (sub C_z4 [1,1,1,1,1,0,1,0,0,1,1,0,0,1,0,1,0,0]) K (qSc t1 s3 want5 p7 s36 s37 s38 s43 s44))=qnw (qmB K) (qJf K) n:=by
 induction n
 kernel_rfl;rename_i n ih;show _=qgz (qmB K) (qJf K) (qnw (qmB K) (qJf K) n) n;rw[← ih];kernel_rfl
theorem qJg (K:KT) (n:Nat):(fun t1 s3 want5 s36 s37 s38=>evLP E_z4 n (sub C_z4 [1,1,1,1,1,0,1,0,0]) K (qOc t1 s3 want5 s36 s37 s38))=z4_l8 (qmB K) (qBZ K) n:=by
 induction n
 kernel_rfl;rename_i n ih;funext t1 s3 want5 s36 s37 s38;show _=qiW (qmB K) (qBZ K) (z4_l8 (qmB K) (qBZ K) n) n t1 s3 want5 s36 s37 s38;rw[← ih];unfold qiW;rw[(Eq.trans (by kernel_rfl) (qCa (qSa n K) n).symm:qnw (qmB K) (qqb (qmB K) (qBZ K) (fun t1 s3 want5 s36 s37 s38=>evLP E_z4 n (sub C_z4 [1,1,1,1,1,0,1,0,0]) K (qOc t1 s3 want5 s36 s37 s38)) n) n=_)];kernel_rfl
theorem z4_ev (n:Nat) (t0:LU×(LU×((List (LU×(LI×Unit)))×Unit))) (o0:Lab):evFnP E_z4 n C_z4 R_z4 [.dat (.pair (.sl .byte) (.pair (.sl .byte) (.pair (.sl (.pair (.sl .byte) (.pair (.sl (.int .i32)) .unit))) .unit))) t0 o0]=z4_sh n t0:=by
 unfold z4_sh qgA;rw[(Eq.trans (by kernel_rfl) (qJg (qSb n) n).symm:z4_l8 qga (qiX n) n=_)];kernel_rfl
theorem qJh:gG 4 s_z4:=sQ (E:=E_z4) (c:=C_z4) rfl (fC qJl (fC qJT (fC qxI (fC qJY (fC qDk (fC qBU (fC qld (fC qBY fN)))))))) func4 fun avs r h=>by
 unfold s_z4 at h;split at h
 ·obtain⟨hp,rfl⟩:=yj h;exact eX (qPV _ hp) fun n=>z4_ev n _ _
 ·cases h
end
end
end Go.Av
