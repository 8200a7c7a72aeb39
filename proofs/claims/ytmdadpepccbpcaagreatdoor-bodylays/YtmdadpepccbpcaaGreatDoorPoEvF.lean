import Derived.Test.YtmdadpepccbpcaaGreatDoorPoEvE
import Derived.Test.YtmdadpepccbpcaaGreatDoorPoD
import Derived.Test.YtmdadpepccbpcaaGreatDoorAvE
import Derived.Test.YtmdadpepccbpcaaGreatDoorProg
import Derived.KernelRfl
namespace Go.Av
set_option linter.unusedSimpArgs false
set_option linter.unusedVariables false
section
noncomputable section
open Go.Proofs
set_option maxRecDepth 100000
set_option linter.unusedVariables false
def E_z70:EnvP:=eQ [(130,s_z130)] 27 (some [2,3]) (fun x=>if x=5 then some [4,13,14,15] else none) (fun x=>if x=0 then some [4] else if x=1 then some [4,13,14,15] else none) (fun x=>if x=12 then some (.psl 5 (.leaf .byte)) else none)
def C_z70:Code:=cO Tryz.f70
def R_z70:Array ResultVar:=Tryz.f70.results
noncomputable def qmM (K:Ex→Fr→OA):=fun s4=>K (.exit 0) (frOf [(4,(.pv (.psl 5 (.leaf .byte)) s4 none))])
def qqB (n:Nat):Ex→Fr→OA:=qo 0 (E_z70.cutb 0) (kSeq (evCP E_z70 (evLP E_z70 n) (sub C_z70 [1,1,1,1])) (kFnP E_z70 R_z70))
def qwq (s4:LU) (s13:LI) (s14:Int) (s15:Int):Fr:=frOf [(4,(.pv (.psl 5 (.leaf .byte)) s4 none)),(13,(.dat (.sl (.int .i32)) s13 none)),(14,dc s14),(15,dc s15)]
theorem qAI (K:Ex→Fr→OA):∀ (n:Nat) (s4:LU) (s13:LI) (s14:Int) (s15:Int),evLP E_z70 n (sub C_z70 [1,1,1,0,1,0,0]) K (qwq s4 s13 s14 s15)=qlg (qmM K) n s4 s13 s14 s15:=by
 intro n;induction n with
 | zero=>intros; rfl
 | succ n IH =>
 intro s4 s13 s14 s15;have ih:(fun s4 s13 s14 s15=>evLP E_z70 n (sub C_z70 [1,1,1,0,1,0,0]) K (qwq s4 s13 s14 s15))=qlg (qmM K) n:=by
  funext s4 s13 s14 s15;exact IH s4 s13 s14 s15
 show _=qfN (qmM K) (qlg (qmM K) n) n s4 s13 s14 s15;rw [← ih];kernel_rfl
theorem qsI (n:Nat) (s4:LU):(qqB n) (.exit 0) (frOf [(4,(.pv (.psl 5 (.leaf .byte)) s4 none))])=qfO n s4:=by
 kernel_rfl
theorem qND (n:Nat) (t0:LI) (o0:Lab):evFnP E_z70 n C_z70 R_z70 [.dat (.sl (.int .i32)) t0 o0]=qBK n t0:=by
 unfold qBK;rw [show qlg (qfO n) n=(fun s4 s13 s14 s15=>evLP E_z70 n (sub C_z70 [1,1,1,0,1,0,0]) (qqB n) (qwq s4 s13 s14 s15)) from by
  funext s4 s13 s14 s15;refine Eq.trans ?_ (qAI (qqB n) n s4 s13 s14 s15).symm;rw [show (qmM (qqB n))=(qfO n) from by
   funext s4;exact qsI n s4]
  all_goals kernel_rfl]
 kernel_rfl
theorem qAJ:qe G Tryz.prog 70 s_z70:=by
 refine sQ (E:=E_z70) (c:=C_z70) rfl (fun w S hg=>(qa (qwp w S hg) qc)) Tryz.func70 ?_;intro avs r h;unfold s_z70 at h;split at h
 ·obtain ⟨hp,rfl⟩:=yj h;obtain ⟨n,hn⟩:=qGy _ hp;exact ⟨n,_,(qND n _ _).trans hn,.inl rfl⟩
 ·cases h
def E_z31:EnvP:=eQ [(65,s_z65),(66,s_z66),(67,s_z67),(68,s_z68),(69,s_z69),(70,s_z70)] 38 (some [1000004,5]) nC (fun x=>if x=0 then some [0,1] else if x=1 then some [1] else none) nP
def C_z31:Code:=cO Tryz.f31
def R_z31:Array ResultVar:=Tryz.f31.results
theorem qNE (n:Nat) (charset0:Int) (o0:Lab) (t1:LI) (o1:Lab):evFnP E_z31 n C_z31 R_z31 [de charset0 o0,.dat (.sl (.int .i32)) t1 o1]=qFS n charset0 t1:=by
 kernel_rfl
theorem qAK:qe G Tryz.prog 31 s_z31:=by
 refine sQ (E:=E_z31) (c:=C_z31) rfl (fun w S hg=>(qa (qqw w S hg) (qa (qAB w S hg) (qa (qAD w S hg) (qa (qAF w S hg) (qa (qAH w S hg) (qa (qAJ w S hg) qc))))))) Tryz.func31 ?_;intro avs r h;unfold s_z31 at h;split at h
 ·obtain ⟨hp,rfl⟩:=yj h;obtain ⟨n,hn⟩:=qGE _ _ hp;exact ⟨n,_,(qNE n _ _ _ _).trans hn,.inl rfl⟩
 ·cases h
def E_z13:EnvP:=eQ [(30,s_z30),(31,s_z31),(60,s_z60),(61,s_z61),(63,s_z63)] 39 (some [1000006,7]) nC nC nP
def C_z13:Code:=cO Tryz.f13
def R_z13:Array ResultVar:=Tryz.f13.results
theorem qNF (n:Nat) (coding0:Int) (o0:Lab) (charset1:Int) (o1:Lab) (t2:LI) (o2:Lab):evFnP E_z13 n C_z13 R_z13 [de coding0 o0,de charset1 o1,.dat (.sl (.int .i32)) t2 o2]=qFT n coding0 charset1 t2:=by
 kernel_rfl
theorem qgK:qe G Tryz.prog 13 s_z13:=by
 refine sQ (E:=E_z13) (c:=C_z13) rfl (fun w S hg=>(qa (qAA w S hg) (qa (qAK w S hg) (qa (qAt w S hg) (qa (qAw w S hg) (qa (qAz w S hg) qc)))))) Tryz.func13 ?_;intro avs r h;unfold s_z13 at h;split at h
 ·obtain ⟨hp,rfl⟩:=yj h;obtain ⟨n,hn⟩:=qFB _ _ _ hp;exact ⟨n,_,(qNF n _ _ _ _ _ _).trans hn,.inl rfl⟩
 ·cases h
def E_z49:EnvP:=eQ [(105,s_z105)] 19 (some [2]) (fun x=>if x=3 then some [0,3,5] else none) (fun x=>if x=0 then some [3] else if x=1 then some [0,3,5] else none) nP
def C_z49:Code:=cO Tryz.f49
def R_z49:Array ResultVar:=Tryz.f49.results
def s_z49:List AV→Bool×AV:=byE E_z49 C_z49 R_z49
theorem qAL:qe G Tryz.prog 49 s_z49:=by
 refine qi G_stays (E:=E_z49) (fn:=Tryz.f49) (c:=C_z49) (qd rfl qZ) (fun w S hg=>⟨⟨(qa (qmI w S hg) qc),fun f sp h=>qx f sp h w S⟩,qy w S hg,(fun _ _ h=>by cases h),(fun f sp h=>qC f sp h),(fun f it h=>qD f it h),(fun t kt vt h=>qz t kt vt h)⟩) follows Tryz.func49 (by kernel_rfl) (by kernel_rfl) (by kernel_rfl) fun _ _ h=>qE h
def qKG:EnvP:=eQ [(163,s_z163)] 8 (some [2]) nC nC nP
def qKH:Code:=cO Tryz.f106
def qNG:Array ResultVar:=Tryz.f106.results
def s_z106:List AV→Bool×AV:=byE qKG qKH qNG
theorem qwr:qe G Tryz.prog 106 s_z106:=by
 refine qi G_stays (E:=qKG) (fn:=Tryz.f106) (c:=qKH) (qd rfl qZ) (fun w S hg=>⟨⟨(qa (quX w S hg) qc),fun f sp h=>qx f sp h w S⟩,qy w S hg,(fun _ _ h=>by cases h),(fun f sp h=>qC f sp h),(fun f it h=>qD f it h),(fun t kt vt h=>qz t kt vt h)⟩) follows Tryz.func106 (by kernel_rfl) (by kernel_rfl) (by kernel_rfl) fun _ _ h=>qE h
def E_z50:EnvP:=eQ [(106,s_z106)] 8 (some [2]) nC nC nP
def C_z50:Code:=cO Tryz.f50
def R_z50:Array ResultVar:=Tryz.f50.results
def s_z50:List AV→Bool×AV:=byE E_z50 C_z50 R_z50
theorem qAM:qe G Tryz.prog 50 s_z50:=by
 refine qi G_stays (E:=E_z50) (fn:=Tryz.f50) (c:=C_z50) (qd rfl qZ) (fun w S hg=>⟨⟨(qa (qwr w S hg) qc),fun f sp h=>qx f sp h w S⟩,qy w S hg,(fun _ _ h=>by cases h),(fun f sp h=>qC f sp h),(fun f it h=>qD f it h),(fun t kt vt h=>qz t kt vt h)⟩) follows Tryz.func50 (by kernel_rfl) (by kernel_rfl) (by kernel_rfl) fun _ _ h=>qE h
def E_z24:EnvP:=eQ [(49,s_z49),(50,s_z50)] 22 (some [2,3]) (fun x=>if x=3 then some [4,7,8,9] else none) (fun x=>if x=0 then some [4] else if x=1 then some [4,7,8,9] else none) nP
def C_z24:Code:=cO Tryz.f24
def R_z24:Array ResultVar:=Tryz.f24.results
def s_z24:List AV→Bool×AV:=byE E_z24 C_z24 R_z24
theorem qAN:qe G Tryz.prog 24 s_z24:=by
 refine qi G_stays (E:=E_z24) (fn:=Tryz.f24) (c:=C_z24) (qd rfl qZ) (fun w S hg=>⟨⟨(qa (qAL w S hg) (qa (qAM w S hg) qc)),fun f sp h=>qx f sp h w S⟩,qy w S hg,(fun _ _ h=>by cases h),(fun f sp h=>qC f sp h),(fun f it h=>qD f it h),(fun t kt vt h=>qz t kt vt h)⟩) follows Tryz.func24 (by kernel_rfl) (by kernel_rfl) (by kernel_rfl) fun _ _ h=>qE h
def E_z25:EnvP:=eQ [] 26 (some [4]) (fun x=>if x=4 then some [0,1,12,13] else none) (fun x=>if x=0 then some [] else if x=1 then some [0,1,12,13] else none) nP
def C_z25:Code:=cO Tryz.f25
def R_z25:Array ResultVar:=Tryz.f25.results
def s_z25:List AV→Bool×AV:=byE E_z25 C_z25 R_z25
theorem qAO:qe G Tryz.prog 25 s_z25:=by
 refine qi G_stays (E:=E_z25) (fn:=Tryz.f25) (c:=C_z25) (qd rfl qZ) (fun w S hg=>⟨⟨qc,fun f sp h=>qx f sp h w S⟩,qy w S hg,(fun _ _ h=>by cases h),(fun f sp h=>qC f sp h),(fun f it h=>qD f it h),(fun t kt vt h=>qz t kt vt h)⟩) follows Tryz.func25 (by kernel_rfl) (by kernel_rfl) (by kernel_rfl) fun _ _ h=>qE h
def E_z8:EnvP:=eQ [(12,s_z12),(13,s_z13),(24,s_z24),(25,s_z25)] 53 (some [2,3,1000004,5]) (fun x=>if x=5 then some [0,6,8] else none) (fun x=>if x=0 then some [0,6] else if x=1 then some [0,6,8] else none) nP
def C_z8:Code:=cO Tryz.f8
def R_z8:Array ResultVar:=Tryz.f8.results
def s_z8:List AV→Bool×AV:=byE E_z8 C_z8 R_z8
theorem qFh:qe G Tryz.prog 8 s_z8:=by
 refine qi G_stays (E:=E_z8) (fn:=Tryz.f8) (c:=C_z8) (qd rfl qZ) (fun w S hg=>⟨⟨(qa (qqr w S hg) (qa (qgK w S hg) (qa (qAN w S hg) (qa (qAO w S hg) qc)))),fun f sp h=>qx f sp h w S⟩,qy w S hg,(fun _ _ h=>by cases h),(fun f sp h=>qC f sp h),(fun f it h=>qD f it h),(fun t kt vt h=>qz t kt vt h)⟩) follows Tryz.func8 (by kernel_rfl) (by kernel_rfl) (by kernel_rfl) fun _ _ h=>qE h
def E_z11:EnvP:=eQ [] 26 (some [4]) (fun x=>if x=4 then some [0,1,5] else none) (fun x=>if x=0 then some [] else if x=1 then some [0,1,5] else none) nP
def C_z11:Code:=cO Tryz.f11
def R_z11:Array ResultVar:=Tryz.f11.results
noncomputable def qqC (K:Ex→Fr→OA):=fun s4=>K .ret (frOf [(4,dg s4)])
def qqD (n:Nat):Ex→Fr→OA:=qo 0 (E_z11.cutb 0) (kSeq (evCP E_z11 (evLP E_z11 n) (sub C_z11 [1,1,1])) (kFnP E_z11 R_z11))
def qws (a0:LI) (b1:LI) (i5:Int):Fr:=frOf [(0,(.dat (.sl (.int .i32)) a0 none)),(1,(.dat (.sl (.int .i32)) b1 none)),(5,dc i5)]
theorem qAP (K:Ex→Fr→OA):∀ (n:Nat) (a0:LI) (b1:LI) (i5:Int),evLP E_z11 n (sub C_z11 [1,1,0,1,0,0]) K (qws a0 b1 i5)=qlh (qqC K) (K (.exit 0) (frOf [])) n a0 b1 i5:=by
 intro n;induction n with
 | zero=>intros; rfl
 | succ n IH =>
 intro a0 b1 i5;have ih:(fun a0 b1 i5=>evLP E_z11 n (sub C_z11 [1,1,0,1,0,0]) K (qws a0 b1 i5))=qlh (qqC K) (K (.exit 0) (frOf [])) n:=by
  funext a0 b1 i5;exact IH a0 b1 i5
 show _=qfP (qqC K) (K (.exit 0) (frOf [])) (qlh (qqC K) (K (.exit 0) (frOf [])) n) n a0 b1 i5;rw [← ih];kernel_rfl
theorem qsJ (n:Nat)  : (qqD n) (.exit 0) (frOf [])=qli n  := by
 kernel_rfl
theorem qNH (n:Nat) (a0:LI) (o0:Lab) (b1:LI) (o1:Lab):evFnP E_z11 n C_z11 R_z11 [.dat (.sl (.int .i32)) a0 o0,.dat (.sl (.int .i32)) b1 o1]=qBL n a0 b1:=by
 unfold qBL;rw [show qlh qjn (qli n) n=(fun a0 b1 i5=>evLP E_z11 n (sub C_z11 [1,1,0,1,0,0]) (qqD n) (qws a0 b1 i5)) from by
  funext a0 b1 i5;refine Eq.trans ?_ (qAP (qqD n) n a0 b1 i5).symm;rw [show ((qqD n) (.exit 0) (frOf []))=(qli n) from by
   exact qsJ n ]
  all_goals kernel_rfl]
 kernel_rfl
theorem qqE:qe G Tryz.prog 11 s_z11:=by
 refine sQ (E:=E_z11) (c:=C_z11) rfl (fun w S hg=>qc) Tryz.func11 ?_;intro avs r h;unfold s_z11 at h;split at h
 ·obtain ⟨hp,rfl⟩:=yj h;obtain ⟨n,hn⟩:=qGv _ _ hp;exact ⟨n,_,(qNH n _ _ _ _).trans hn,.inl rfl⟩
 ·cases h
def E_z7:EnvP:=eQ [(8,s_z8),(11,s_z11),(12,s_z12),(13,s_z13)] 60 (some [0]) nC nC nP
def C_z7:Code:=cO Tryz.f7
def R_z7:Array ResultVar:=Tryz.f7.results
theorem z7_ev:evFnP E_z7 300 C_z7 R_z7 []=some (dg true):=by
 kernel_rfl
theorem qFi:qe G Tryz.prog 7 s_z7:=by
 refine sQ (E:=E_z7) (c:=C_z7) rfl (fun w S hg=>(qa (qFh w S hg) (qa (qqE w S hg) (qa (qqr w S hg) (qa (qgK w S hg) qc))))) Tryz.func7 ?_;intro avs r h;unfold s_z7 at h;split at h
 ·simp only [yb,true_and] at h;subst h;exact ⟨300,_,z7_ev,.inl rfl⟩
 ·cases h
def E_z10:EnvP:=eQ [] 26 (some [4]) (fun x=>if x=4 then some [0,1,5] else none) (fun x=>if x=0 then some [] else if x=1 then some [0,1,5] else none) nP
def C_z10:Code:=cO Tryz.f10
def R_z10:Array ResultVar:=Tryz.f10.results
noncomputable def qqF (K:Ex→Fr→OA):=fun s4=>K .ret (frOf [(4,dg s4)])
def qqG (n:Nat):Ex→Fr→OA:=qo 0 (E_z10.cutb 0) (kSeq (evCP E_z10 (evLP E_z10 n) (sub C_z10 [1,1,1])) (kFnP E_z10 R_z10))
def qwt (a0:LU) (b1:LU) (i5:Int):Fr:=frOf [(0,da a0),(1,da b1),(5,dc i5)]
theorem qAQ (K:Ex→Fr→OA):∀ (n:Nat) (a0:LU) (b1:LU) (i5:Int),evLP E_z10 n (sub C_z10 [1,1,0,1,0,0]) K (qwt a0 b1 i5)=qlj (qqF K) (K (.exit 0) (frOf [])) n a0 b1 i5:=by
 intro n;induction n with
 | zero=>intros; rfl
 | succ n IH =>
 intro a0 b1 i5;have ih:(fun a0 b1 i5=>evLP E_z10 n (sub C_z10 [1,1,0,1,0,0]) K (qwt a0 b1 i5))=qlj (qqF K) (K (.exit 0) (frOf [])) n:=by
  funext a0 b1 i5;exact IH a0 b1 i5
 show _=qfQ (qqF K) (K (.exit 0) (frOf [])) (qlj (qqF K) (K (.exit 0) (frOf [])) n) n a0 b1 i5;rw [← ih];kernel_rfl
theorem qsK (n:Nat)  : (qqG n) (.exit 0) (frOf [])=qlk n  := by
 kernel_rfl
theorem qNI (n:Nat) (a0:LU) (o0:Lab) (b1:LU) (o1:Lab):evFnP E_z10 n C_z10 R_z10 [db a0 o0,db b1 o1]=qBM n a0 b1:=by
 unfold qBM;rw [show qlj qjo (qlk n) n=(fun a0 b1 i5=>evLP E_z10 n (sub C_z10 [1,1,0,1,0,0]) (qqG n) (qwt a0 b1 i5)) from by
  funext a0 b1 i5;refine Eq.trans ?_ (qAQ (qqG n) n a0 b1 i5).symm;rw [show ((qqG n) (.exit 0) (frOf []))=(qlk n) from by
   exact qsK n ]
  all_goals kernel_rfl]
 kernel_rfl
theorem qAR:qe G Tryz.prog 10 s_z10:=by
 refine sQ (E:=E_z10) (c:=C_z10) rfl (fun w S hg=>qc) Tryz.func10 ?_;intro avs r h;unfold s_z10 at h;split at h
 ·obtain ⟨hp,rfl⟩:=yj h;obtain ⟨n,hn⟩:=qGh _ _ hp;exact ⟨n,_,(qNI n _ _ _ _).trans hn,.inl rfl⟩
 ·cases h
def E_z77:EnvP:=eQ [] 9 (some [2]) nC nC nP
def C_z77:Code:=cO Tryz.f77
def R_z77:Array ResultVar:=Tryz.f77.results
theorem qNJ (n:Nat) (c0:Int) (o0:Lab):evFnP E_z77 n C_z77 R_z77 [di c0 o0]=qFU n c0:=by
 kernel_rfl
theorem qAS:qe G Tryz.prog 77 s_z77:=by
 refine sQ (E:=E_z77) (c:=C_z77) rfl (fun w S hg=>qc) Tryz.func77 ?_;intro avs r h;unfold s_z77 at h;split at h <;> cases h
 obtain ⟨n,hn⟩:=qGo _;exact ⟨n,_,(qNJ n _ _).trans hn,.inl rfl⟩
def E_z36:EnvP:=eQ [(77,s_z77)] 14 (some [2]) nC nC nP
def C_z36:Code:=cO Tryz.f36
def R_z36:Array ResultVar:=Tryz.f36.results
theorem qNK (n:Nat) (c0:Int) (o0:Lab):evFnP E_z36 n C_z36 R_z36 [di c0 o0]=qFV n c0:=by
 kernel_rfl
theorem qqH:qe G Tryz.prog 36 s_z36:=by
 refine sQ (E:=E_z36) (c:=C_z36) rfl (fun w S hg=>(qa (qAS w S hg) qc)) Tryz.func36 ?_;intro avs r h;unfold s_z36 at h;split at h <;> cases h
 obtain ⟨n,hn⟩:=qGp _;exact ⟨n,_,(qNK n _ _).trans hn,.inl rfl⟩
def qKI:EnvP:=eQ [] 5 (some [2]) nC nC nP
def qKJ:Code:=cO Tryz.f187
def qNL:Array ResultVar:=Tryz.f187.results
theorem qKK (n:Nat) (x0:UInt8) (o0:Lab):evFnP qKI n qKJ qNL [dn x0 o0]=qDW n x0:=by
 kernel_rfl
theorem qwu:qe G Tryz.prog 187 s_z187:=by
 refine sQ (E:=qKI) (c:=qKJ) rfl (fun w S hg=>qc) Tryz.func187 ?_;intro avs r h;unfold s_z187 at h;split at h <;> cases h
 obtain ⟨n,hn⟩:=qCh _;exact ⟨n,_,(qKK n _ _).trans hn,.inl rfl⟩
def qkJ:EnvP:=eQ [(187,s_z187)] 20 (some [2,3]) (fun x=>if x=2 then some [0,4] else none) (fun x=>if x=0 then some [] else if x=1 then some [0,4] else none) nP
def qsL:Code:=cO Tryz.f132
def qKL:Array ResultVar:=Tryz.f132.results
noncomputable def qkK (K:Ex→Fr→OA):=fun s2 s3=>K .ret (frOf [(2,dm s2),(3,dg s3)])
def qkL (n:Nat):Ex→Fr→OA:=qo 0 (qkJ.cutb 0) (kSeq (evCP qkJ (evLP qkJ n) (sub qsL [1,1])) (kFnP qkJ qKL))
def qox (c0:Int) (n4:Int):Fr:=frOf [(0,(di c0 none)),(4,dc n4)]
theorem qwv (K:Ex→Fr→OA):∀ (n:Nat) (c0:Int) (n4:Int),evLP qkJ n (sub qsL [1,0,1,0,0]) K (qox c0 n4)=qgl (qkK K) (K (.exit 0) (frOf [])) n c0 n4:=by
 intro n;induction n with
 | zero=>intros; rfl
 | succ n IH =>
 intro c0 n4;have ih:(fun c0 n4=>evLP qkJ n (sub qsL [1,0,1,0,0]) K (qox c0 n4))=qgl (qkK K) (K (.exit 0) (frOf [])) n:=by
  funext c0 n4;exact IH c0 n4
 show _=qgR (qkK K) (K (.exit 0) (frOf [])) (qgl (qkK K) (K (.exit 0) (frOf [])) n) n c0 n4;rw [← ih];kernel_rfl
theorem qoy (n:Nat)  : (qkL n) (.exit 0) (frOf [])=qgS n  := by
 kernel_rfl
theorem qKM (n:Nat) (c0:Int) (o0:Lab):evFnP qkJ n qsL qKL [di c0 o0]=qrh n c0:=by
 unfold qrh;rw [show qgl qll (qgS n) n=(fun c0 n4=>evLP qkJ n (sub qsL [1,0,1,0,0]) (qkL n) (qox c0 n4)) from by
  funext c0 n4;refine Eq.trans ?_ (qwv (qkL n) n c0 n4).symm;rw [show ((qkL n) (.exit 0) (frOf []))=(qgS n) from by
   exact qoy n ]
  all_goals kernel_rfl]
 kernel_rfl
theorem qmN:qe G Tryz.prog 132 s_z132:=by
 refine sQ (E:=qkJ) (c:=qsL) rfl (fun w S hg=>(qa (qwu w S hg) qc)) Tryz.func132 ?_;intro avs r h;unfold s_z132 at h;split at h <;> cases h
 obtain ⟨n,hn⟩:=qCi _;exact ⟨n,_,(qKM n _ _).trans hn,.inl rfl⟩
def E_z90:EnvP:=eQ [] 22 (some [2]) nC (fun x=>if x=0 then some [0] else none) nP
def C_z90:Code:=cO Tryz.f90
def R_z90:Array ResultVar:=Tryz.f90.results
theorem qNM (n:Nat) (x0:UInt8) (o0:Lab):evFnP E_z90 n C_z90 R_z90 [dn x0 o0]=qFW n x0:=by
 kernel_rfl
theorem qAT:qe G Tryz.prog 90 s_z90:=by
 refine sQ (E:=E_z90) (c:=C_z90) rfl (fun w S hg=>qc) Tryz.func90 ?_;intro avs r h;unfold s_z90 at h;split at h <;> cases h
 obtain ⟨n,hn⟩:=qGm _;exact ⟨n,_,(qNM n _ _).trans hn,.inl rfl⟩
def qkM:EnvP:=eQ [(90,s_z90)] 20 (some [2,3]) (fun x=>if x=2 then some [0,4] else none) (fun x=>if x=0 then some [] else if x=1 then some [0,4] else none) nP
def qsM:Code:=cO Tryz.f133
def qKN:Array ResultVar:=Tryz.f133.results
noncomputable def qkN (K:Ex→Fr→OA):=fun s2 s3=>K .ret (frOf [(2,dm s2),(3,dg s3)])
def qkO (n:Nat):Ex→Fr→OA:=qo 0 (qkM.cutb 0) (kSeq (evCP qkM (evLP qkM n) (sub qsM [1,1])) (kFnP qkM qKN))
def qoz (c0:Int) (n4:Int):Fr:=frOf [(0,(di c0 none)),(4,dc n4)]
theorem qww (K:Ex→Fr→OA):∀ (n:Nat) (c0:Int) (n4:Int),evLP qkM n (sub qsM [1,0,1,0,0]) K (qoz c0 n4)=qiv (qkN K) (K (.exit 0) (frOf [])) n c0 n4:=by
 intro n;induction n with
 | zero=>intros; rfl
 | succ n IH =>
 intro c0 n4;have ih:(fun c0 n4=>evLP qkM n (sub qsM [1,0,1,0,0]) K (qoz c0 n4))=qiv (qkN K) (K (.exit 0) (frOf [])) n:=by
  funext c0 n4;exact IH c0 n4
 show _=qgT (qkN K) (K (.exit 0) (frOf [])) (qiv (qkN K) (K (.exit 0) (frOf [])) n) n c0 n4;rw [← ih];kernel_rfl
theorem qoA (n:Nat)  : (qkO n) (.exit 0) (frOf [])=qeP n  := by
 kernel_rfl
theorem qKO (n:Nat) (c0:Int) (o0:Lab):evFnP qkM n qsM qKN [di c0 o0]=qri n c0:=by
 unfold qri;rw [show qiv qiu (qeP n) n=(fun c0 n4=>evLP qkM n (sub qsM [1,0,1,0,0]) (qkO n) (qoz c0 n4)) from by
  funext c0 n4;refine Eq.trans ?_ (qww (qkO n) n c0 n4).symm;rw [show ((qkO n) (.exit 0) (frOf []))=(qeP n) from by
   exact qoA n ]
  all_goals kernel_rfl]
 kernel_rfl
theorem qmO:qe G Tryz.prog 133 s_z133:=by
 refine sQ (E:=qkM) (c:=qsM) rfl (fun w S hg=>(qa (qAT w S hg) qc)) Tryz.func133 ?_;intro avs r h;unfold s_z133 at h;split at h <;> cases h
 obtain ⟨n,hn⟩:=qCj _;exact ⟨n,_,(qKO n _ _).trans hn,.inl rfl⟩
end
end
end Go.Av
