import Derived.Test.YtmdadpepccbpcaaGreatDoorPoEvG
import Derived.Test.YtmdadpepccbpcaaGreatDoorPoD
import Derived.Test.YtmdadpepccbpcaaGreatDoorAvE
import Derived.Test.YtmdadpepccbpcaaGreatDoorProg
import Derived.KernelRfl
namespace Go.Av
set_option linter.unusedSimpArgs false
set_option linter.unusedVariables false
section
noncomputable section
open Go.Proofs
set_option maxRecDepth 100000
set_option linter.unusedVariables false
theorem qAZ:gG 31 s_z31:=sZ [(65,s_z65),(66,s_z66),(67,s_z67),(68,s_z68),(69,s_z69),(70,s_z70)] 38 (some [1000004,5]) nC (fun x=>if x=0 then some [0,1] else if x=1 then some [1] else none) nP (fC qqc (fC qAN (fC qAQ (fC qAS (fC qAV (fC qAY fN)))))) Tryz.func31 fun avs r h=>by
 unfold s_z31 at h;split at h
 ·obtain⟨hp,rfl⟩:=yj h;exact eX (qIG _ _ hp) fun n=>by kernel_rfl
 ·cases h
theorem qjS:gG 13 s_z13:=sY [(30,s_z30),(31,s_z31),(60,s_z60),(61,s_z61),(63,s_z63)] 39 (some [1000006,7]) (fC qAJ (fC qAZ (fC qAC (fC qAF (fC qAI fN))))) Tryz.func13 fun avs r h=>by
 unfold s_z13 at h;split at h
 ·obtain⟨hp,rfl⟩:=yj h;exact eX (qHR _ _ _ hp) fun n=>by kernel_rfl
 ·cases h
def E_z49:EnvP:=eQ [(105,s_z105)] 19 (some [2]) (fun x=>if x=3 then some [0,3,5] else none) (fun x=>if x=0 then some [3] else if x=1 then some [0,3,5] else none) nP
def C_z49:Code:=cO Tryz.f49
def R_z49:Array ResultVar:=Tryz.f49.results
def s_z49:Sp:=byE E_z49 C_z49 R_z49
theorem qBa:gG 49 s_z49:=by
 refine qY G_stays (E:=E_z49) (fn:=Tryz.f49) (c:=C_z49) (qo rfl qeD) (fun w S hg=>⟨⟨(qq (qlT w S hg) qQ),fun f sp h=>qP f sp h w S⟩,qW w S hg,(fun _ _ h=>by cases h),(fun f sp h=>qah f sp h),(fun f it h=>qai f it h),(fun t kt vt h=>qX t kt vt h)⟩) follows Tryz.func49 (by kernel_rfl) (by kernel_rfl) (by kernel_rfl) fun _ _ h=>qeV h
def qLv:EnvP:=eQ [(163,s_z163)] 8 (some [2]) nC nC nP
def qLw:Code:=cO Tryz.f106
def qNF:Array ResultVar:=Tryz.f106.results
def s_z106:Sp:=byE qLv qLw qNF
theorem qwh:gG 106 s_z106:=by
 refine qY G_stays (E:=qLv) (fn:=Tryz.f106) (c:=qLw) (qo rfl qeD) (fun w S hg=>⟨⟨(qq (qux w S hg) qQ),fun f sp h=>qP f sp h w S⟩,qW w S hg,(fun _ _ h=>by cases h),(fun f sp h=>qah f sp h),(fun f it h=>qai f it h),(fun t kt vt h=>qX t kt vt h)⟩) follows Tryz.func106 (by kernel_rfl) (by kernel_rfl) (by kernel_rfl) fun _ _ h=>qeV h
def E_z50:EnvP:=eQ [(106,s_z106)] 8 (some [2]) nC nC nP
def C_z50:Code:=cO Tryz.f50
def R_z50:Array ResultVar:=Tryz.f50.results
def s_z50:Sp:=byE E_z50 C_z50 R_z50
theorem qBb:gG 50 s_z50:=by
 refine qY G_stays (E:=E_z50) (fn:=Tryz.f50) (c:=C_z50) (qo rfl qeD) (fun w S hg=>⟨⟨(qq (qwh w S hg) qQ),fun f sp h=>qP f sp h w S⟩,qW w S hg,(fun _ _ h=>by cases h),(fun f sp h=>qah f sp h),(fun f it h=>qai f it h),(fun t kt vt h=>qX t kt vt h)⟩) follows Tryz.func50 (by kernel_rfl) (by kernel_rfl) (by kernel_rfl) fun _ _ h=>qeV h
def E_z24:EnvP:=eQ [(49,s_z49),(50,s_z50)] 22 (some [2,3]) (fun x=>if x=3 then some [4,7,8,9] else none) (fun x=>if x=0 then some [4] else if x=1 then some [4,7,8,9] else none) nP
def C_z24:Code:=cO Tryz.f24
def R_z24:Array ResultVar:=Tryz.f24.results
def s_z24:Sp:=byE E_z24 C_z24 R_z24
theorem qBc:gG 24 s_z24:=by
 refine qY G_stays (E:=E_z24) (fn:=Tryz.f24) (c:=C_z24) (qo rfl qeD) (fun w S hg=>⟨⟨(qq (qBa w S hg) (qq (qBb w S hg) qQ)),fun f sp h=>qP f sp h w S⟩,qW w S hg,(fun _ _ h=>by cases h),(fun f sp h=>qah f sp h),(fun f it h=>qai f it h),(fun t kt vt h=>qX t kt vt h)⟩) follows Tryz.func24 (by kernel_rfl) (by kernel_rfl) (by kernel_rfl) fun _ _ h=>qeV h
def E_z25:EnvP:=eQ [] 26 (some [4]) (fun x=>if x=4 then some [0,1,12,13] else none) (fun x=>if x=0 then some [] else if x=1 then some [0,1,12,13] else none) nP
def C_z25:Code:=cO Tryz.f25
def R_z25:Array ResultVar:=Tryz.f25.results
def s_z25:Sp:=byE E_z25 C_z25 R_z25
theorem qBd:gG 25 s_z25:=by
 refine qY G_stays (E:=E_z25) (fn:=Tryz.f25) (c:=C_z25) (qo rfl qeD) (fun w S hg=>⟨⟨qQ,fun f sp h=>qP f sp h w S⟩,qW w S hg,(fun _ _ h=>by cases h),(fun f sp h=>qah f sp h),(fun f it h=>qai f it h),(fun t kt vt h=>qX t kt vt h)⟩) follows Tryz.func25 (by kernel_rfl) (by kernel_rfl) (by kernel_rfl) fun _ _ h=>qeV h
def E_z8:EnvP:=eQ [(12,s_z12),(13,s_z13),(24,s_z24),(25,s_z25)] 53 (some [2,3,1000004,5]) (fun x=>if x=5 then some [0,6,8] else none) (fun x=>if x=0 then some [0,6] else if x=1 then some [0,6,8] else none) nP
def C_z8:Code:=cO Tryz.f8
def R_z8:Array ResultVar:=Tryz.f8.results
def s_z8:Sp:=byE E_z8 C_z8 R_z8
theorem qHA:gG 8 s_z8:=by
 refine qY G_stays (E:=E_z8) (fn:=Tryz.f8) (c:=C_z8) (qo rfl qeD) (fun w S hg=>⟨⟨(qq (qjN w S hg) (qq (qjS w S hg) (qq (qBc w S hg) (qq (qBd w S hg) qQ)))),fun f sp h=>qP f sp h w S⟩,qW w S hg,(fun _ _ h=>by cases h),(fun f sp h=>qah f sp h),(fun f it h=>qai f it h),(fun t kt vt h=>qX t kt vt h)⟩) follows Tryz.func8 (by kernel_rfl) (by kernel_rfl) (by kernel_rfl) fun _ _ h=>qeV h
def E_z11:EnvP:=eQ [] 26 (some [4]) (fun x=>if x=4 then some [0,1,5] else none) (fun x=>if x=0 then some [] else if x=1 then some [0,1,5] else none) nP
def C_z11:Code:=cO Tryz.f11
def R_z11:Array ResultVar:=Tryz.f11.results
noncomputable def qwi (K:KT):=fun s4=>K .ret (frOf [(4,dg s4)])
def qLx (n:Nat):KT:=qk 0 (E_z11.cutb 0) (kSeq (evCP E_z11 (evLP E_z11 n) (sub C_z11 [1,1,1])) (kFnP E_z11 R_z11))
def qLy (a0:LI) (b1:LI) (i5:Int):Fr:=frOf [(0,(.dat (.sl (.int .i32)) a0 none)),(1,(.dat (.sl (.int .i32)) b1 none)),(5,dc i5)]
theorem qBe (K:KT) (n:Nat):(fun a0 b1 i5=>evLP E_z11 n (sub C_z11 [1,1,0,1,0,0]) K (qLy a0 b1 i5))=qmi (qwi K) (K (.exit 0) (frOf [])) n:=by
 induction n
 kernel_rfl;rename_i n ih;show _=qfF (qwi K) (K (.exit 0) (frOf [])) (qmi (qwi K) (K (.exit 0) (frOf [])) n) n;rw[← ih];kernel_rfl
theorem qNG (n:Nat) (a0:LI) (o0:Lab) (b1:LI) (o1:Lab):evFnP E_z11 n C_z11 R_z11 [.dat (.sl (.int .i32)) a0 o0,.dat (.sl (.int .i32)) b1 o1]=qBZ n a0 b1:=by
 unfold qBZ;rw[(Eq.trans (by kernel_rfl) (qBe (qLx n) n).symm:qmi qwM (qxF n) n=_)];kernel_rfl
theorem qqd:gG 11 s_z11:=sQ (E:=E_z11) (c:=C_z11) rfl fN Tryz.func11 fun avs r h=>by
 unfold s_z11 at h;split at h
 ·obtain⟨hp,rfl⟩:=yj h;exact eX (qIt _ _ hp) fun n=>qNG n _ _ _ _
 ·cases h
def E_z7:EnvP:=eQ [(8,s_z8),(11,s_z11),(12,s_z12),(13,s_z13)] 60 (some [0]) nC nC nP
def C_z7:Code:=cO Tryz.f7
def R_z7:Array ResultVar:=Tryz.f7.results
theorem z7_ev:evFnP E_z7 300 C_z7 R_z7 []=some (dg true):=by
 kernel_rfl
theorem qHB:gG 7 s_z7:=sQ (E:=E_z7) (c:=C_z7) rfl (fC qHA (fC qqd (fC qjN (fC qjS fN)))) Tryz.func7 fun avs r h=>by
 unfold s_z7 at h;split at h
 ·simp only[yb,true_and] at h;subst h;exact⟨300,_,z7_ev,.inl rfl⟩
 ·cases h
def E_z16:EnvP:=eQ [] 44 (some [2]) (fun x=>if x=3 then some [0,3,6,7,8] else none) (fun x=>if x=0 then some [3] else if x=1 then some [0,3,6,7,8] else if x=2 then some [0,3,6,7,8] else none) nP
def C_z16:Code:=cO Tryz.f16
def R_z16:Array ResultVar:=Tryz.f16.results
noncomputable def qwj (K:KT):=fun out3=>K (.exit 0) (frOf [(3,(.dat (.sl (.int .i32)) out3 (some (3,21))))])
def qLz (n:Nat):KT:=qk 0 (E_z16.cutb 0) (kSeq (evCP E_z16 (evLP E_z16 n) (sub C_z16 [1,1,1])) (kFnP E_z16 R_z16))
def qLA (t0:LI) (out3:LI) (s6:LI) (s7:Int) (s8:Int):Fr:=frOf [(0,(.dat (.sl (.int .i32)) t0 none)),(3,(.dat (.sl (.int .i32)) out3 (some (3,21)))),(6,(.dat (.sl (.int .i32)) s6 none)),(7,dc s7),(8,dc s8)]
theorem qBf (K:KT) (n:Nat):(fun t0 out3 s6 s7 s8=>evLP E_z16 n (sub C_z16 [1,1,0,1,0,0]) K (qLA t0 out3 s6 s7 s8))=qmj (qwj K) n:=by
 induction n
 kernel_rfl;rename_i n ih;show _=qfG (qwj K) (qmj (qwj K) n) n;rw[← ih];kernel_rfl
theorem qNH (n:Nat) (t0:LI) (o0:Lab):evFnP E_z16 n C_z16 R_z16 [.dat (.sl (.int .i32)) t0 o0]=qIf n t0:=by
 unfold qIf;rw[(Eq.trans (by kernel_rfl) (qBf (qLz n) n).symm:qmj (qoF n) n=_)];kernel_rfl
theorem qBg:gG 16 s_z16:=sQ (E:=E_z16) (c:=C_z16) rfl fN Tryz.func16 fun avs r h=>by
 unfold s_z16 at h;split at h
 ·obtain⟨hp,rfl⟩:=yj h;exact eX (qHV _ hp) fun n=>qNH n _ _
 ·cases h
theorem qBh:gG 77 s_z77:=sY [] 9 (some [2]) fN Tryz.func77 fun avs r h=>by
 unfold s_z77 at h;split at h <;> cases h
 exact eX (qIi _) fun n=>by kernel_rfl
theorem qBi:gG 36 s_z36:=sY [(77,s_z77)] 14 (some [2]) (fC qBh fN) Tryz.func36 fun avs r h=>by
 unfold s_z36 at h;split at h <;> cases h
 exact eX (qIj _) fun n=>by kernel_rfl
def E_z18:EnvP:=eQ [(36,s_z36)] 17 (some [2]) (fun x=>if x=2 then some [0,3] else none) (fun x=>if x=0 then some [] else if x=1 then some [0,3] else none) nP
def C_z18:Code:=cO Tryz.f18
def R_z18:Array ResultVar:=Tryz.f18.results
noncomputable def qwk (K:KT):=fun s2=>K .ret (frOf [(2,dc s2)])
def qLB (n:Nat):KT:=qk 0 (E_z18.cutb 0) (kSeq (evCP E_z18 (evLP E_z18 n) (sub C_z18 [1,1])) (kFnP E_z18 R_z18))
def qLC (t0:LI) (i3:Int):Fr:=frOf [(0,(.dat (.sl (.int .i32)) t0 none)),(3,dc i3)]
theorem qBj (K:KT) (n:Nat):(fun t0 i3=>evLP E_z18 n (sub C_z18 [1,0,1,0,0]) K (qLC t0 i3))=qst (qwk K) (K (.exit 0) (frOf [])) n:=by
 induction n
 kernel_rfl;rename_i n ih;show _=qfH (qwk K) (K (.exit 0) (frOf [])) (qst (qwk K) (K (.exit 0) (frOf [])) n) n;rw[← ih];kernel_rfl
theorem qNI (n:Nat) (t0:LI) (o0:Lab):evFnP E_z18 n C_z18 R_z18 [.dat (.sl (.int .i32)) t0 o0]=qCa n t0:=by
 unfold qCa;rw[(Eq.trans (by kernel_rfl) (qBj (qLB n) n).symm:qst qEt (qoG n) n=_)];kernel_rfl
theorem qBk:gG 18 s_z18:=sQ (E:=E_z18) (c:=C_z18) rfl (fC qBi fN) Tryz.func18 fun avs r h=>by
 unfold s_z18 at h;split at h
 ·obtain⟨hp,rfl⟩:=yj h;exact eX (qIl _ hp) fun n=>qNI n _ _
 ·cases h
theorem qwl:gG 200 s_z200:=sY [(109,s_z109)] 9 (some [4]) (fC qlB fN) Tryz.func200 fun avs r h=>by
 unfold s_z200 at h;split at h
 ·obtain⟨hp,rfl⟩:=yj h;exact eX (qDs _ _ hp) fun n=>by kernel_rfl
 ·cases h
theorem qwm:gG 146 s_z146:=sY [(200,s_z200)] 6 (some [2]) (fC qwl fN) Tryz.func146 fun avs r h=>by
 unfold s_z146 at h;split at h
 ·obtain⟨hp,rfl⟩:=yj h;exact eX (qDt _ hp) fun n=>by kernel_rfl
 ·cases h
def E_z83:EnvP:=eQ [(144,s_z144),(145,s_z145),(146,s_z146)] 60 (some [2]) (fun x=>if x=2 then some [0,7,8,9] else none) (fun x=>if x=0 then some [0] else if x=1 then some [0,7,8,9] else if x=2 then some [0,3,7,8,9] else none) nP
def C_z83:Code:=cO Tryz.f83
def R_z83:Array ResultVar:=Tryz.f83.results
noncomputable def qwn (K:KT):=fun l0=>K (.exit 0) (frOf [(0,da l0)])
noncomputable def qwo (K:KT):=fun s2=>K .ret (frOf [(2,dg s2)])
def qLD (n:Nat):KT:=qk 0 (E_z83.cutb 0) (kSeq (evCP E_z83 (evLP E_z83 n) (sub C_z83 [1,1])) (kFnP E_z83 R_z83))
def qLE (l0:LU) (s7:LU) (s8:Int) (s9:Int):Fr:=frOf [(0,da l0),(7,da s7),(8,dc s8),(9,dc s9)]
theorem qBl (K:KT) (n:Nat):(fun l0 s7 s8 s9=>evLP E_z83 n (sub C_z83 [1,0,1,0,0]) K (qLE l0 s7 s8 s9))=qsu (qwo K) (qwn K) n:=by
 induction n
 kernel_rfl;rename_i n ih;show _=qfI (qwo K) (qwn K) (qsu (qwo K) (qwn K) n) n;rw[← ih];kernel_rfl
theorem qNJ (n:Nat) (l0:LU) (o0:Lab):evFnP E_z83 n C_z83 R_z83 [db l0 o0]=qCb n l0:=by
 unfold qCb;rw[(Eq.trans (by kernel_rfl) (qBl (qLD n) n).symm:qsu qwM (qhZ n) n=_)];kernel_rfl
theorem qBm:gG 83 s_z83:=sQ (E:=E_z83) (c:=C_z83) rfl (fC qhs (fC qlF (fC qwm fN))) Tryz.func83 fun avs r h=>by
 unfold s_z83 at h;split at h
 ·obtain⟨hp,rfl⟩:=yj h;exact eX (qIP _ hp) fun n=>qNJ n _ _
 ·cases h
end
end
end Go.Av
