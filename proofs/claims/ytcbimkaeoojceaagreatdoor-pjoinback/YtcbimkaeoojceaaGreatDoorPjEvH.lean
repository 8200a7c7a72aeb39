import Derived.Test.YtcbimkaeoojceaaGreatDoorPjEvG
import Derived.Test.YtcbimkaeoojceaaGreatDoorPjU
import Derived.Test.YtcbimkaeoojceaaGreatDoorProg
import Derived.KernelRfl
namespace Go.Av
set_option linter.unusedSimpArgs false
set_option linter.unusedVariables false
noncomputable section
open Go.Proofs
set_option maxRecDepth 100000
def E_z83:EnvP:=eQ [(21,s_z21),(84,s_z84),(85,s_z85),(86,s_z86)] 41 (some [4]) nC (fun x=>if x=0 then some [5] else none) nP
def C_z83:Code:=cO Tryz.f83
def R_z83:Array ResultVar:=Tryz.f83.results
theorem qRl (n:Nat) (charset0:Int) (o0:Lab) (c1:Int) (o1:Lab):evFnP E_z83 n C_z83 R_z83 [de charset0 o0,dm c1 o1]=qKf n charset0 c1:=by
 kernel_rfl
theorem qsg:qf G Tryz.prog 83 s_z83:=by
 refine sQ (E:=E_z83) (c:=C_z83) rfl (fun w S hg=>(qa (qlg w S hg) (qa (qrZ w S hg) (qa (qsc w S hg) (qa (qsf w S hg) qd))))) Tryz.func83 ?_;intro avs r h;unfold s_z83 at h;split at h <;> cases h
 obtain ⟨n,hn⟩:=qKM _ _;exact ⟨n,_,(qRl n _ _ _ _).trans hn,.inl rfl⟩
def E_z61:EnvP:=eQ [(83,s_z83)] 20 (some [4]) (fun x=>if x=2 then some [0,1,5] else none) (fun x=>if x=0 then some [] else if x=1 then some [0,1,5] else none) nP
def C_z61:Code:=cO Tryz.f61
def R_z61:Array ResultVar:=Tryz.f61.results
noncomputable def qsh (K:Ex→Fr→OA):=fun s4=>K .ret (frOf [(4,dc s4)])
def qsi (n:Nat):Ex→Fr→OA:=qw 0 (E_z61.cutb 0) (kSeq (evCP E_z61 (evLP E_z61 n) (sub C_z61 [1,1])) (kFnP E_z61 R_z61))
def qyy (charset0:Int) (t1:LI) (i5:Int):Fr:=frOf [(0,dc charset0),(1,(.dat (.sl (.int .i32)) t1 none)),(5,dc i5)]
theorem qDL (K:Ex→Fr→OA):∀ (n:Nat) (charset0:Int) (t1:LI) (i5:Int),evLP E_z61 n (sub C_z61 [1,0,1,0,0]) K (qyy charset0 t1 i5)=qpO (qsh K) (K (.exit 0) (frOf [])) n charset0 t1 i5:=by
 intro n;induction n with
 | zero=>intros; rfl
 | succ n IH =>
 intro charset0 t1 i5;have ih:(fun charset0 t1 i5=>evLP E_z61 n (sub C_z61 [1,0,1,0,0]) K (qyy charset0 t1 i5))=qpO (qsh K) (K (.exit 0) (frOf [])) n:=by
  funext charset0 t1 i5;exact IH charset0 t1 i5
 show _=qgl (qsh K) (K (.exit 0) (frOf [])) (qpO (qsh K) (K (.exit 0) (frOf [])) n) n charset0 t1 i5;rw [← ih];kernel_rfl
theorem quP (n:Nat)  : (qsi n) (.exit 0) (frOf [])=qiZ n  := by
 kernel_rfl
theorem qRm (n:Nat) (charset0:Int) (o0:Lab) (t1:LI) (o1:Lab):evFnP E_z61 n C_z61 R_z61 [de charset0 o0,.dat (.sl (.int .i32)) t1 o1]=qFf n charset0 t1:=by
 unfold qFf;rw [show qpO qnU (qiZ n) n=(fun charset0 t1 i5=>evLP E_z61 n (sub C_z61 [1,0,1,0,0]) (qsi n) (qyy charset0 t1 i5)) from by
  funext charset0 t1 i5;refine Eq.trans ?_ (qDL (qsi n) n charset0 t1 i5).symm;rw [show ((qsi n) (.exit 0) (frOf []))=(qiZ n) from by
   exact quP n ]
  all_goals kernel_rfl]
 kernel_rfl
theorem qDM:qf G Tryz.prog 61 s_z61:=by
 refine sQ (E:=E_z61) (c:=C_z61) rfl (fun w S hg=>(qa (qsg w S hg) qd)) Tryz.func61 ?_;intro avs r h;unfold s_z61 at h;split at h
 ·obtain ⟨hp,rfl⟩:=yj h;obtain ⟨n,hn⟩:=qKR _ _ hp;exact ⟨n,_,(qRm n _ _ _ _).trans hn,.inl rfl⟩
 ·cases h
def E_z38:EnvP:=eQ [(61,s_z61)] 17 (some [4]) nC nC nP
def C_z38:Code:=cO Tryz.f38
def R_z38:Array ResultVar:=Tryz.f38.results
theorem qRn (n:Nat) (charset0:Int) (o0:Lab) (t1:LI) (o1:Lab):evFnP E_z38 n C_z38 R_z38 [de charset0 o0,.dat (.sl (.int .i32)) t1 o1]=qKg n charset0 t1:=by
 kernel_rfl
theorem qDN:qf G Tryz.prog 38 s_z38:=by
 refine sQ (E:=E_z38) (c:=C_z38) rfl (fun w S hg=>(qa (qDM w S hg) qd)) Tryz.func38 ?_;intro avs r h;unfold s_z38 at h;split at h
 ·obtain ⟨hp,rfl⟩:=yj h;obtain ⟨n,hn⟩:=qKS _ _ hp;exact ⟨n,_,(qRn n _ _ _ _).trans hn,.inl rfl⟩
 ·cases h
def E_z24:EnvP:=eQ [(38,s_z38)] 13 (some [2,3]) (fun x=>if x=2 then some [0,4] else none) (fun x=>if x=0 then some [] else if x=1 then some [0,4] else none) nP
def C_z24:Code:=cO Tryz.f24
def R_z24:Array ResultVar:=Tryz.f24.results
noncomputable def qsj (K:Ex→Fr→OA):=fun s2 s3=>K .ret (frOf [(2,dc s2),(3,dc s3)])
def qsk (n:Nat):Ex→Fr→OA:=qw 0 (E_z24.cutb 0) (kSeq (evCP E_z24 (evLP E_z24 n) (sub C_z24 [1,1])) (kFnP E_z24 R_z24))
def qyz (t0:LI) (n4:Int):Fr:=frOf [(0,(.dat (.sl (.int .i32)) t0 none)),(4,dc n4)]
theorem qDO (K:Ex→Fr→OA):∀ (n:Nat) (t0:LI) (n4:Int),evLP E_z24 n (sub C_z24 [1,0,1,0,0]) K (qyz t0 n4)=qlR (qsj K) (K (.exit 0) (frOf [])) n t0 n4:=by
 intro n;induction n with
 | zero=>intros; rfl
 | succ n IH =>
 intro t0 n4;have ih:(fun t0 n4=>evLP E_z24 n (sub C_z24 [1,0,1,0,0]) K (qyz t0 n4))=qlR (qsj K) (K (.exit 0) (frOf [])) n:=by
  funext t0 n4;exact IH t0 n4
 show _=qgm (qsj K) (K (.exit 0) (frOf [])) (qlR (qsj K) (K (.exit 0) (frOf [])) n) n t0 n4;rw [← ih];kernel_rfl
theorem quQ (n:Nat)  : (qsk n) (.exit 0) (frOf [])=qer n  := by
 kernel_rfl
theorem qRo (n:Nat) (t0:LI) (o0:Lab):evFnP E_z24 n C_z24 R_z24 [.dat (.sl (.int .i32)) t0 o0]=qFg n t0:=by
 unfold qFg;rw [show qlR qfn (qer n) n=(fun t0 n4=>evLP E_z24 n (sub C_z24 [1,0,1,0,0]) (qsk n) (qyz t0 n4)) from by
  funext t0 n4;refine Eq.trans ?_ (qDO (qsk n) n t0 n4).symm;rw [show ((qsk n) (.exit 0) (frOf []))=(qer n) from by
   exact quQ n ]
  all_goals kernel_rfl]
 kernel_rfl
theorem qsl:qf G Tryz.prog 24 s_z24:=by
 refine sQ (E:=E_z24) (c:=C_z24) rfl (fun w S hg=>(qa (qDN w S hg) qd)) Tryz.func24 ?_;intro avs r h;unfold s_z24 at h;split at h
 ·obtain ⟨hp,rfl⟩:=yj h;obtain ⟨n,hn⟩:=qKT _ hp;exact ⟨n,_,(qRo n _ _).trans hn,.inl rfl⟩
 ·cases h
def E_z87:EnvP:=eQ [(21,s_z21)] 60 (some [2]) nC nC nP
def C_z87:Code:=cO Tryz.f87
def R_z87:Array ResultVar:=Tryz.f87.results
theorem qRp (n:Nat) (c0:Int) (o0:Lab):evFnP E_z87 n C_z87 R_z87 [dm c0 o0]=qKh n c0:=by
 kernel_rfl
theorem qDP:qf G Tryz.prog 87 s_z87:=by
 refine sQ (E:=E_z87) (c:=C_z87) rfl (fun w S hg=>(qa (qlg w S hg) qd)) Tryz.func87 ?_;intro avs r h;unfold s_z87 at h;split at h <;> cases h
 obtain ⟨n,hn⟩:=qKH _;exact ⟨n,_,(qRp n _ _).trans hn,.inl rfl⟩
def E_z62:EnvP:=eQ [(83,s_z83),(84,s_z84),(85,s_z85),(86,s_z86),(87,s_z87)] 40 (some [4]) nC (fun x=>if x=0 then some [5] else none) nP
def C_z62:Code:=cO Tryz.f62
def R_z62:Array ResultVar:=Tryz.f62.results
theorem qRq (n:Nat) (charset0:Int) (o0:Lab) (c1:Int) (o1:Lab):evFnP E_z62 n C_z62 R_z62 [de charset0 o0,dm c1 o1]=qKi n charset0 c1:=by
 kernel_rfl
theorem qDQ:qf G Tryz.prog 62 s_z62:=by
 refine sQ (E:=E_z62) (c:=C_z62) rfl (fun w S hg=>(qa (qsg w S hg) (qa (qrZ w S hg) (qa (qsc w S hg) (qa (qsf w S hg) (qa (qDP w S hg) qd)))))) Tryz.func62 ?_;intro avs r h;unfold s_z62 at h;split at h <;> cases h
 obtain ⟨n,hn⟩:=qKN _ _;exact ⟨n,_,(qRq n _ _ _ _).trans hn,.inl rfl⟩
def E_z39:EnvP:=eQ [(62,s_z62)] 34 (some [4,5]) (fun x=>if x=5 then some [0,1,6,7] else none) (fun x=>if x=0 then some [6] else if x=1 then some [0,1,6,7] else none) nP
def C_z39:Code:=cO Tryz.f39
def R_z39:Array ResultVar:=Tryz.f39.results
noncomputable def qsm (K:Ex→Fr→OA):=fun s4 s5=>K .ret (frOf [(4,(db s4 (some (4,5)))),(5,dc s5)])
noncomputable def qns (K:Ex→Fr→OA):=fun out6=>K (.exit 0) (frOf [(6,(db out6 (some (6,5))))])
def qsn (n:Nat):Ex→Fr→OA:=qw 0 (E_z39.cutb 0) (kSeq (evCP E_z39 (evLP E_z39 n) (sub C_z39 [1,1,1,1])) (kFnP E_z39 R_z39))
def qyA (charset0:Int) (t1:LI) (out6:LU) (i7:Int):Fr:=frOf [(0,dc charset0),(1,(.dat (.sl (.int .i32)) t1 none)),(6,(db out6 (some (6,5)))),(7,dc i7)]
theorem qDR (K:Ex→Fr→OA):∀ (n:Nat) (charset0:Int) (t1:LI) (out6:LU) (i7:Int),evLP E_z39 n (sub C_z39 [1,1,1,0,1,0,0]) K (qyA charset0 t1 out6 i7)=qpP (qsm K) (qns K) n charset0 t1 out6 i7:=by
 intro n;induction n with
 | zero=>intros; rfl
 | succ n IH =>
 intro charset0 t1 out6 i7;have ih:(fun charset0 t1 out6 i7=>evLP E_z39 n (sub C_z39 [1,1,1,0,1,0,0]) K (qyA charset0 t1 out6 i7))=qpP (qsm K) (qns K) n:=by
  funext charset0 t1 out6 i7;exact IH charset0 t1 out6 i7
 show _=qgn (qsm K) (qns K) (qpP (qsm K) (qns K) n) n charset0 t1 out6 i7;rw [← ih];kernel_rfl
theorem quR (n:Nat) (out6:LU):(qsn n) (.exit 0) (frOf [(6,(db out6 (some (6,5))))])=qgo n out6:=by
 kernel_rfl
theorem qRr (n:Nat) (charset0:Int) (o0:Lab) (t1:LI) (o1:Lab):evFnP E_z39 n C_z39 R_z39 [de charset0 o0,.dat (.sl (.int .i32)) t1 o1]=qFh n charset0 t1:=by
 unfold qFh;rw [show qpP qgO (qgo n) n=(fun charset0 t1 out6 i7=>evLP E_z39 n (sub C_z39 [1,1,1,0,1,0,0]) (qsn n) (qyA charset0 t1 out6 i7)) from by
  funext charset0 t1 out6 i7;refine Eq.trans ?_ (qDR (qsn n) n charset0 t1 out6 i7).symm;rw [show (qns (qsn n))=(qgo n) from by
   funext out6;exact quR n out6]
  all_goals kernel_rfl]
 kernel_rfl
theorem qDS:qf G Tryz.prog 39 s_z39:=by
 refine sQ (E:=E_z39) (c:=C_z39) rfl (fun w S hg=>(qa (qDQ w S hg) qd)) Tryz.func39 ?_;intro avs r h;unfold s_z39 at h;split at h
 ·obtain ⟨hp,rfl⟩:=yj h;obtain ⟨n,hn⟩:=qKO _ _ hp;exact ⟨n,_,(qRr n _ _ _ _).trans hn,.inl rfl⟩
 ·cases h
def qOh:EnvP:=eQ [] 17 (some [2]) nC nC nP
def qOi:Code:=cO Tryz.f107
def qRs:Array ResultVar:=Tryz.f107.results
theorem qOj (n:Nat) (n0:Int) (o0:Lab):evFnP qOh n qOi qRs [de n0 o0]=qAk n n0:=by
 kernel_rfl
theorem qyB:qf G Tryz.prog 107 s_z107:=by
 refine sQ (E:=qOh) (c:=qOi) rfl (fun w S hg=>qd) Tryz.func107 ?_;intro avs r h;unfold s_z107 at h;split at h
 ·obtain ⟨hp,rfl⟩:=yj h;obtain ⟨n,hn⟩:=qFs _ hp;exact ⟨n,_,(qOj n _ _).trans hn,.inl rfl⟩
 ·cases h
def E_z88:EnvP:=eQ [(107,s_z107)] 20 (some [6]) nC nC nP
def C_z88:Code:=cO Tryz.f88
def R_z88:Array ResultVar:=Tryz.f88.results
theorem qRt (n:Nat) (b0:LU) (o0:Lab) (sign1:UInt8) (o1:Lab) (c2:UInt8) (o2:Lab):evFnP E_z88 n C_z88 R_z88 [db b0 o0,dp sign1 o1,dp c2 o2]=qKj n b0 sign1 c2:=by
 kernel_rfl
theorem qDT:qf G Tryz.prog 88 s_z88:=by
 refine sQ (E:=E_z88) (c:=C_z88) rfl (fun w S hg=>(qa (qyB w S hg) qd)) Tryz.func88 ?_;intro avs r h;unfold s_z88 at h;split at h
 ·obtain ⟨hp,rfl⟩:=yj h;obtain ⟨n,hn⟩:=qKz _ _ _ hp;exact ⟨n,_,(qRt n _ _ _ _ _ _).trans hn,.inl rfl⟩
 ·cases h
def E_z63:EnvP:=eQ [(82,s_z82),(88,s_z88)] 9 (some [2]) nC nC nP
def C_z63:Code:=cO Tryz.f63
def R_z63:Array ResultVar:=Tryz.f63.results
theorem qRu (n:Nat) (c0:UInt8) (o0:Lab):evFnP E_z63 n C_z63 R_z63 [dp c0 o0]=qKk n c0:=by
 kernel_rfl
theorem qDU:qf G Tryz.prog 63 s_z63:=by
 refine sQ (E:=E_z63) (c:=C_z63) rfl (fun w S hg=>(qa (qrN w S hg) (qa (qDT w S hg) qd))) Tryz.func63 ?_;intro avs r h;unfold s_z63 at h;split at h <;> cases h
 obtain ⟨n,hn⟩:=qKW _;exact ⟨n,_,(qRu n _ _).trans hn,.inl rfl⟩
def E_z40:EnvP:=eQ [(63,s_z63)] 19 (some [2]) (fun x=>if x=3 then some [0,3,4] else none) (fun x=>if x=0 then some [3] else if x=1 then some [0,3,4] else none) nP
def C_z40:Code:=cO Tryz.f40
def R_z40:Array ResultVar:=Tryz.f40.results
noncomputable def qnt (K:Ex→Fr→OA):=fun out3=>K (.exit 0) (frOf [(3,(db out3 (some (3,5))))])
def qso (n:Nat):Ex→Fr→OA:=qw 0 (E_z40.cutb 0) (kSeq (evCP E_z40 (evLP E_z40 n) (sub C_z40 [1,1,1])) (kFnP E_z40 R_z40))
def qyC (s0:LU) (out3:LU) (i4:Int):Fr:=frOf [(0,da s0),(3,(db out3 (some (3,5)))),(4,dc i4)]
theorem qDV (K:Ex→Fr→OA):∀ (n:Nat) (s0:LU) (out3:LU) (i4:Int),evLP E_z40 n (sub C_z40 [1,1,0,1,0,0]) K (qyC s0 out3 i4)=qpR (qnt K) n s0 out3 i4:=by
 intro n;induction n with
 | zero=>intros; rfl
 | succ n IH =>
 intro s0 out3 i4;have ih:(fun s0 out3 i4=>evLP E_z40 n (sub C_z40 [1,1,0,1,0,0]) K (qyC s0 out3 i4))=qpR (qnt K) n:=by
  funext s0 out3 i4;exact IH s0 out3 i4
 show _=qgp (qnt K) (qpR (qnt K) n) n s0 out3 i4;rw [← ih];kernel_rfl
theorem quS (n:Nat) (out3:LU):(qso n) (.exit 0) (frOf [(3,(db out3 (some (3,5))))])=qgq n out3:=by
 kernel_rfl
theorem qRv (n:Nat) (s0:LU) (o0:Lab):evFnP E_z40 n C_z40 R_z40 [db s0 o0]=qFi n s0:=by
 unfold qFi;rw [show qpR (qgq n) n=(fun s0 out3 i4=>evLP E_z40 n (sub C_z40 [1,1,0,1,0,0]) (qso n) (qyC s0 out3 i4)) from by
  funext s0 out3 i4;refine Eq.trans ?_ (qDV (qso n) n s0 out3 i4).symm;rw [show (qnt (qso n))=(qgq n) from by
   funext out3;exact quS n out3]
  all_goals kernel_rfl]
 kernel_rfl
theorem qDW:qf G Tryz.prog 40 s_z40:=by
 refine sQ (E:=E_z40) (c:=C_z40) rfl (fun w S hg=>(qa (qDU w S hg) qd)) Tryz.func40 ?_;intro avs r h;unfold s_z40 at h;split at h
 ·obtain ⟨hp,rfl⟩:=yj h;obtain ⟨n,hn⟩:=qKX _ hp;exact ⟨n,_,(qRv n _ _).trans hn,.inl rfl⟩
 ·cases h
def E_z25:EnvP:=eQ [(24,s_z24),(39,s_z39),(40,s_z40)] 40 (some [2,3]) (fun x=>if x=6 then some [0,4,6,7] else none) (fun x=>if x=0 then some [6] else if x=1 then some [0,4,6,7] else none) nP
def C_z25:Code:=cO Tryz.f25
def R_z25:Array ResultVar:=Tryz.f25.results
noncomputable def qnu (K:Ex→Fr→OA):=fun out6=>K (.exit 0) (frOf [(6,(.dat (.sl (.sl .byte)) out6 (some (6,22))))])
def qsp (n:Nat):Ex→Fr→OA:=qw 0 (E_z25.cutb 0) (kSeq (evCP E_z25 (evLP E_z25 n) (sub C_z25 [1,1,1,1,1])) (kFnP E_z25 R_z25))
def qyD (t0:LI) (n4:Int) (out6:List LU) (i7:Int):Fr:=frOf [(0,(.dat (.sl (.int .i32)) t0 none)),(4,dc n4),(6,(.dat (.sl (.sl .byte)) out6 (some (6,22)))),(7,dc i7)]
theorem qDX (K:Ex→Fr→OA):∀ (n:Nat) (t0:LI) (n4:Int) (out6:List LU) (i7:Int),evLP E_z25 n (sub C_z25 [1,1,1,1,0,1,0,0]) K (qyD t0 n4 out6 i7)=qpS (qnu K) n t0 n4 out6 i7:=by
 intro n;induction n with
 | zero=>intros; rfl
 | succ n IH =>
 intro t0 n4 out6 i7;have ih:(fun t0 n4 out6 i7=>evLP E_z25 n (sub C_z25 [1,1,1,1,0,1,0,0]) K (qyD t0 n4 out6 i7))=qpS (qnu K) n:=by
  funext t0 n4 out6 i7;exact IH t0 n4 out6 i7
 show _=qgr (qnu K) (qpS (qnu K) n) n t0 n4 out6 i7;rw [← ih];kernel_rfl
theorem quT (n:Nat) (out6:List LU):(qsp n) (.exit 0) (frOf [(6,(.dat (.sl (.sl .byte)) out6 (some (6,22))))])=qgs n out6:=by
 kernel_rfl
theorem qRw (n:Nat) (t0:LI) (o0:Lab):evFnP E_z25 n C_z25 R_z25 [.dat (.sl (.int .i32)) t0 o0]=qFj n t0:=by
 unfold qFj;rw [show qpS (qgs n) n=(fun t0 n4 out6 i7=>evLP E_z25 n (sub C_z25 [1,1,1,1,0,1,0,0]) (qsp n) (qyD t0 n4 out6 i7)) from by
  funext t0 n4 out6 i7;refine Eq.trans ?_ (qDX (qsp n) n t0 n4 out6 i7).symm;rw [show (qnu (qsp n))=(qgs n) from by
   funext out6;exact quT n out6]
  all_goals kernel_rfl]
 kernel_rfl
theorem qDY:qf G Tryz.prog 25 s_z25:=by
 refine sQ (E:=E_z25) (c:=C_z25) rfl (fun w S hg=>(qa (qsl w S hg) (qa (qDS w S hg) (qa (qDW w S hg) qd)))) Tryz.func25 ?_;intro avs r h;unfold s_z25 at h;split at h
 ·obtain ⟨hp,rfl⟩:=yj h;obtain ⟨n,hn⟩:=qLk _ hp;exact ⟨n,_,(qRw n _ _).trans hn,.inl rfl⟩
 ·cases h
def E_z41:EnvP:=eQ [(64,s_z64)] 23 (some [2]) nC nC nP
def C_z41:Code:=cO Tryz.f41
def R_z41:Array ResultVar:=Tryz.f41.results
theorem qRx (n:Nat) (p0:LU×(Int×(Bool×(LU×Unit)))) (o0:Lab):evFnP E_z41 n C_z41 R_z41 [.dat (.pair (.sl .byte) (.pair (.int .i64) (.pair .bool (.pair (.sl .byte) .unit)))) p0 o0]=qKl n p0:=by
 kernel_rfl
theorem qDZ:qf G Tryz.prog 41 s_z41:=by
 refine sQ (E:=E_z41) (c:=C_z41) rfl (fun w S hg=>(qa (qCl w S hg) qd)) Tryz.func41 ?_;intro avs r h;unfold s_z41 at h;split at h
 ·obtain ⟨hp,rfl⟩:=yj h;obtain ⟨n,hn⟩:=qLa _ hp;exact ⟨n,_,(qRx n _ _).trans hn,.inl rfl⟩
 ·cases h
def E_z26:EnvP:=eQ [(41,s_z41)] 22 (some [6]) nC nC nP
def C_z26:Code:=cO Tryz.f26
def R_z26:Array ResultVar:=Tryz.f26.results
theorem qRy (n:Nat) (name0:LU) (o0:Lab) (n1:Int) (o1:Lab) (charset2:LU) (o2:Lab):evFnP E_z26 n C_z26 R_z26 [db name0 o0,de n1 o1,df charset2 o2]=qKm n name0 n1 charset2:=by
 kernel_rfl
theorem qEa:qf G Tryz.prog 26 s_z26:=by
 refine sQ (E:=E_z26) (c:=C_z26) rfl (fun w S hg=>(qa (qDZ w S hg) qd)) Tryz.func26 ?_;intro avs r h;unfold s_z26 at h;split at h
 ·obtain ⟨hp,rfl⟩:=yj h;obtain ⟨n,hn⟩:=qLb _ _ _ hp;exact ⟨n,_,(qRy n _ _ _ _ _ _).trans hn,.inl rfl⟩
 ·cases h
def E_z42:EnvP:=eQ [] 19 (some [2]) nC (fun x=>if x=0 then some [] else none) nP
def C_z42:Code:=cO Tryz.f42
def R_z42:Array ResultVar:=Tryz.f42.results
theorem qRz (n:Nat) (n0:Int) (o0:Lab):evFnP E_z42 n C_z42 R_z42 [de n0 o0]=qKn n n0:=by
 kernel_rfl
theorem qEb:qf G Tryz.prog 42 s_z42:=by
 refine sQ (E:=E_z42) (c:=C_z42) rfl (fun w S hg=>qd) Tryz.func42 ?_;intro avs r h;unfold s_z42 at h;split at h <;> cases h
 obtain ⟨n,hn⟩:=qKC _;exact ⟨n,_,(qRz n _ _).trans hn,.inl rfl⟩
def E_z27:EnvP:=eQ [(42,s_z42)] 12 (some [2]) nC nC nP
def C_z27:Code:=cO Tryz.f27
def R_z27:Array ResultVar:=Tryz.f27.results
theorem qRA (n:Nat) (n0:Int) (o0:Lab):evFnP E_z27 n C_z27 R_z27 [de n0 o0]=qKo n n0:=by
 kernel_rfl
theorem qEc:qf G Tryz.prog 27 s_z27:=by
 refine sQ (E:=E_z27) (c:=C_z27) rfl (fun w S hg=>(qa (qEb w S hg) qd)) Tryz.func27 ?_;intro avs r h;unfold s_z27 at h;split at h <;> cases h
 obtain ⟨n,hn⟩:=qKD _;exact ⟨n,_,(qRA n _ _).trans hn,.inl rfl⟩
end
end Go.Av
