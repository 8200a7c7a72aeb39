import Derived.Test.YtcbimkaeoojceaaGreatDoorPjEvE
import Derived.Test.YtcbimkaeoojceaaGreatDoorPjU
import Derived.Test.YtcbimkaeoojceaaGreatDoorProg
import Derived.KernelRfl
namespace Go.Av
set_option linter.unusedSimpArgs false
set_option linter.unusedVariables false
noncomputable section
open Go.Proofs
set_option maxRecDepth 100000
def E_z10:EnvP:=eQ [] 26 (some [4]) (fun x=>if x=4 then some [0,1,5] else none) (fun x=>if x=0 then some [] else if x=1 then some [0,1,5] else none) nP
def C_z10:Code:=cO Tryz.f10
def R_z10:Array ResultVar:=Tryz.f10.results
noncomputable def qrG (K:Ex→Fr→OA):=fun s4=>K .ret (frOf [(4,dg s4)])
def qrH (n:Nat):Ex→Fr→OA:=qw 0 (E_z10.cutb 0) (kSeq (evCP E_z10 (evLP E_z10 n) (sub C_z10 [1,1,1])) (kFnP E_z10 R_z10))
def qyh (a0:LI) (b1:LI) (i5:Int):Fr:=frOf [(0,(.dat (.sl (.int .i32)) a0 none)),(1,(.dat (.sl (.int .i32)) b1 none)),(5,dc i5)]
theorem qDq (K:Ex→Fr→OA):∀ (n:Nat) (a0:LI) (b1:LI) (i5:Int),evLP E_z10 n (sub C_z10 [1,1,0,1,0,0]) K (qyh a0 b1 i5)=qlG (qrG K) (K (.exit 0) (frOf [])) n a0 b1 i5:=by
 intro n;induction n with
 | zero=>intros; rfl
 | succ n IH =>
 intro a0 b1 i5;have ih:(fun a0 b1 i5=>evLP E_z10 n (sub C_z10 [1,1,0,1,0,0]) K (qyh a0 b1 i5))=qlG (qrG K) (K (.exit 0) (frOf [])) n:=by
  funext a0 b1 i5;exact IH a0 b1 i5
 show _=qgc (qrG K) (K (.exit 0) (frOf [])) (qlG (qrG K) (K (.exit 0) (frOf [])) n) n a0 b1 i5;rw [← ih];kernel_rfl
theorem quE (n:Nat)  : (qrH n) (.exit 0) (frOf [])=qlH n  := by
 kernel_rfl
theorem qQH (n:Nat) (a0:LI) (o0:Lab) (b1:LI) (o1:Lab):evFnP E_z10 n C_z10 R_z10 [.dat (.sl (.int .i32)) a0 o0,.dat (.sl (.int .i32)) b1 o1]=qEV n a0 b1:=by
 unfold qEV;rw [show qlG qjU (qlH n) n=(fun a0 b1 i5=>evLP E_z10 n (sub C_z10 [1,1,0,1,0,0]) (qrH n) (qyh a0 b1 i5)) from by
  funext a0 b1 i5;refine Eq.trans ?_ (qDq (qrH n) n a0 b1 i5).symm;rw [show ((qrH n) (.exit 0) (frOf []))=(qlH n) from by
   exact quE n ]
  all_goals kernel_rfl]
 kernel_rfl
theorem qrI:qf G Tryz.prog 10 s_z10:=by
 refine sQ (E:=E_z10) (c:=C_z10) rfl (fun w S hg=>qd) Tryz.func10 ?_;intro avs r h;unfold s_z10 at h;split at h
 ·obtain ⟨hp,rfl⟩:=yj h;obtain ⟨n,hn⟩:=qLF _ _ hp;exact ⟨n,_,(qQH n _ _ _ _).trans hn,.inl rfl⟩
 ·cases h
def E_z18:EnvP:=eQ [(19,s_z19)] 8 (some [3,9]) nC nC nP
def C_z18:Code:=cO Tryz.f18
def R_z18:Array ResultVar:=Tryz.f18.results
theorem qQI (n:Nat) (p0:LU×(LI×Unit)) (o0:Lab) (x1:LU):evFnM E_z18 n C_z18 R_z18 [.dat (.pair (.sl .byte) (.pair (.sl (.int .i32)) .unit)) p0 o0,.pbox (.leaf (.sl .byte)) x1 none]=qJZ n p0 x1:=by
 kernel_rfl
theorem qDr:qmx G Tryz.prog 18 s_z18:=by
 refine qaF G_stays (E:=E_z18) (fn:=Tryz.f18) (c:=C_z18) (qo rfl qcq) (fun w S hg=>⟨⟨(qa (qra w S hg) qd),fun f sp h=>qaN f sp h w S⟩,qaU w S hg,(fun _ _ h=>by cases h),(fun f sp h=>qbz f sp h),(fun f it h=>qbA f it h),(fun t kt vt h=>qaP t kt vt h)⟩) follows Tryz.func18 (by kernel_rfl) (by kernel_rfl) (by kernel_rfl) ?_;intro avs r h;unfold s_z18 at h;split at h
 ·obtain ⟨hp,rfl⟩:=yj h;obtain ⟨n,hn⟩:=qJa _ _ hp;exact ⟨n,(qQI n _ _ _).trans hn⟩
 ·cases h
def E_z17:EnvP:=⟨⟨tiOf tis,fnsOf [],cnsOf [],[],19,(fun x=>if x=2 then some [0,1,7,8,20] else none),(fun x=>if x=0 then some [20] else if x=1 then some [0,1,7,8,20] else none),some [4,20]⟩,fun _=>none,fun _=>none,fun _=>[],(fun x=>if x=18 then some s_z18 else none),fun _=>none,fun _=>none,fun _=>none⟩
def C_z17:Code:=cO Tryz.f17
def R_z17:Array ResultVar:=Tryz.f17.results
noncomputable def qrJ (K:Ex→Fr→OA):=fun s4 s20=>K .ret (frOf [(4,dc s4),(20,(.pbox (.leaf (.sl .byte)) s20 none))])
noncomputable def qno (K:Ex→Fr→OA):=fun s20=>K (.exit 0) (frOf [(20,(.pbox (.leaf (.sl .byte)) s20 none))])
def qrK (n:Nat) (s0:List (LU×(LI×Unit))) (f1:LU):Ex→Fr→OA:=qw 0 (E_z17.cutb 0) (kSeq (evCP E_z17 (evLP E_z17 n) (sub C_z17 [1,1])) (kFnM E_z17 R_z17 [.dat (.sl (.pair (.sl .byte) (.pair (.sl (.int .i32)) .unit))) s0 none,.fn 18 [.pbox (.leaf (.sl .byte)) f1 none]]))
def qyi (s0:List (LU×(LI×Unit))) (s7:Int) (s8:Int) (s20:LU):Fr:=frOf [(0,(.dat (.sl (.pair (.sl .byte) (.pair (.sl (.int .i32)) .unit))) s0 none)),(1,(.padr 20 [.clo 18 false])),(7,dc s7),(8,dc s8),(20,(.pbox (.leaf (.sl .byte)) s20 none))]
theorem qpf (K:Ex→Fr→OA):∀ (n:Nat) (s0:List (LU×(LI×Unit))) (s7:Int) (s8:Int) (s20:LU),evLP E_z17 n (sub C_z17 [1,0,1,0,0]) K (qyi s0 s7 s8 s20)=qcI (qrJ K) (qno K) n s0 s7 s8 s20:=by
 intro n;induction n with
 | zero=>intros; rfl
 | succ n IH =>
 intro s0 s7 s8 s20;have ih:(fun s0 s7 s8 s20=>evLP E_z17 n (sub C_z17 [1,0,1,0,0]) K (qyi s0 s7 s8 s20))=qcI (qrJ K) (qno K) n:=by
  funext s0 s7 s8 s20;exact IH s0 s7 s8 s20
 show _=qbx (qrJ K) (qno K) (qcI (qrJ K) (qno K) n) n s0 s7 s8 s20;rw [← ih];kernel_rfl
theorem qlf (s0:List (LU×(LI×Unit))) (f1:LU) (n:Nat) (s20:LU):(qrK n s0 f1) (.exit 0) (frOf [(20,(.pbox (.leaf (.sl .byte)) s20 none))])=qcv n s20:=by
 kernel_rfl
theorem qDs (n:Nat) (s0:List (LU×(LI×Unit))) (o0:Lab) (f1:LU):evFnM E_z17 n C_z17 R_z17 [.dat (.sl (.pair (.sl .byte) (.pair (.sl (.int .i32)) .unit))) s0 o0,.fn 18 [.pbox (.leaf (.sl .byte)) f1 none]]=qlI n s0 f1:=by
 unfold qlI;rw [show qcI qcu (qcv n) n=(fun s0 s7 s8 s20=>evLP E_z17 n (sub C_z17 [1,0,1,0,0]) (qrK n s0 f1) (qyi s0 s7 s8 s20)) from by
  funext s0 s7 s8 s20;refine Eq.trans ?_ (qpf (qrK n s0 f1) n s0 s7 s8 s20).symm;rw [show (qno (qrK n s0 f1))=(qcv n) from by
   funext s20;exact qlf s0 f1 n s20]
  all_goals kernel_rfl]
 kernel_rfl
theorem qDt:qmx G Tryz.prog 17 s_z17:=by
 refine qaF G_stays (E:=E_z17) (fn:=Tryz.f17) (c:=C_z17) (qo rfl qcq) (fun w S hg=>⟨⟨qd,fun f sp h=>qaN f sp h w S⟩,qaU w S hg,(fun f sp h=>(qea (qDr w S hg) qhF) f sp h),(fun _ _ h=>by cases h),(fun _ _ h=>by cases h),(fun t kt vt h=>qaP t kt vt h)⟩) follows Tryz.func17 (by kernel_rfl) (by kernel_rfl) (by kernel_rfl) ?_;intro avs r h;unfold s_z17 at h;split at h
 ·obtain ⟨hp,rfl⟩:=yj h;obtain ⟨n,hn⟩:=qvb _ _ hp;exact ⟨n,(qDs n _ _ _).trans hn⟩
 ·cases h
def E_z11:EnvP:=⟨⟨tiOf tis,fnsOf [(20,s_z20)],cnsOf [],[],18,(fun _=>none),(fun _=>none),some [1000004,5]⟩,(fun x=>if x=3 then some (.leaf (.sl .byte)) else none),fun _=>none,fun _=>[],(fun x=>if x=17 then some s_z17 else none),fun _=>none,fun _=>none,fun _=>none⟩
def C_z11:Code:=cO Tryz.f11
def R_z11:Array ResultVar:=Tryz.f11.results
theorem qQJ (n:Nat) (l0:List (LU×(LI×Unit))) (o0:Lab) (name1:LU) (o1:Lab):evFnP E_z11 n C_z11 R_z11 [.dat (.sl (.pair (.sl .byte) (.pair (.sl (.int .i32)) .unit))) l0 o0,db name1 o1]=qKa n l0 name1:=by
 kernel_rfl
theorem qDu:qf G Tryz.prog 11 s_z11:=by
 refine qM G_stays (E:=E_z11) (fn:=Tryz.f11) (c:=C_z11) (qo rfl qcq) (fun w S hg=>⟨⟨(qa (qCn w S hg) qd),fun f sp h=>qaN f sp h w S⟩,qaU w S hg,(fun f sp h=>(qea (qDt w S hg) qhF) f sp h),(fun f sp h=>qbz f sp h),(fun f it h=>qbA f it h),(fun t kt vt h=>qaP t kt vt h)⟩) follows Tryz.func11 (by kernel_rfl) (by kernel_rfl) (by kernel_rfl) ?_;intro avs r h;unfold s_z11 at h;split at h
 ·obtain ⟨hp,rfl⟩:=yj h;obtain ⟨n,hn⟩:=qJb _ _ hp;exact ⟨n,_,(qQJ n _ _ _ _).trans hn,.inl rfl⟩
 ·cases h
def E_z5:EnvP:=eQ [(7,s_z7),(10,s_z10),(11,s_z11)] 33 (some [0]) nC nC nP
def C_z5:Code:=cO Tryz.f5
def R_z5:Array ResultVar:=Tryz.f5.results
theorem z5_ev (n:Nat)  : evFnP E_z5 n C_z5 R_z5 []=z5_sh n  := by
 kernel_rfl
theorem qIn:qf G Tryz.prog 5 s_z5:=by
 refine sQ (E:=E_z5) (c:=C_z5) rfl (fun w S hg=>(qa (qyg w S hg) (qa (qrI w S hg) (qa (qDu w S hg) qd)))) Tryz.func5 ?_;intro avs r h;unfold s_z5 at h;split at h <;> cases h
 obtain ⟨n,hn⟩:=qOu;exact ⟨n,_,(z5_ev n ).trans hn,.inl rfl⟩
def E_z34:EnvP:=eQ [] 9 (some [2]) nC nC nP
def C_z34:Code:=cO Tryz.f34
def R_z34:Array ResultVar:=Tryz.f34.results
theorem qQK (n:Nat) (c0:Int) (o0:Lab):evFnP E_z34 n C_z34 R_z34 [dm c0 o0]=qKb n c0:=by
 kernel_rfl
theorem qDv:qf G Tryz.prog 34 s_z34:=by
 refine sQ (E:=E_z34) (c:=C_z34) rfl (fun w S hg=>qd) Tryz.func34 ?_;intro avs r h;unfold s_z34 at h;split at h <;> cases h
 obtain ⟨n,hn⟩:=qKE _;exact ⟨n,_,(qQK n _ _).trans hn,.inl rfl⟩
def E_z21:EnvP:=eQ [(34,s_z34)] 14 (some [2]) nC nC nP
def C_z21:Code:=cO Tryz.f21
def R_z21:Array ResultVar:=Tryz.f21.results
theorem qQL (n:Nat) (c0:Int) (o0:Lab):evFnP E_z21 n C_z21 R_z21 [dm c0 o0]=qKc n c0:=by
 kernel_rfl
theorem qlg:qf G Tryz.prog 21 s_z21:=by
 refine sQ (E:=E_z21) (c:=C_z21) rfl (fun w S hg=>(qa (qDv w S hg) qd)) Tryz.func21 ?_;intro avs r h;unfold s_z21 at h;split at h <;> cases h
 obtain ⟨n,hn⟩:=qKF _;exact ⟨n,_,(qQL n _ _).trans hn,.inl rfl⟩
def E_z12:EnvP:=eQ [(21,s_z21)] 17 (some [2]) (fun x=>if x=2 then some [0,3] else none) (fun x=>if x=0 then some [] else if x=1 then some [0,3] else none) nP
def C_z12:Code:=cO Tryz.f12
def R_z12:Array ResultVar:=Tryz.f12.results
noncomputable def qrL (K:Ex→Fr→OA):=fun s2=>K .ret (frOf [(2,dc s2)])
def qrM (n:Nat):Ex→Fr→OA:=qw 0 (E_z12.cutb 0) (kSeq (evCP E_z12 (evLP E_z12 n) (sub C_z12 [1,1])) (kFnP E_z12 R_z12))
def qyj (t0:LI) (i3:Int):Fr:=frOf [(0,(.dat (.sl (.int .i32)) t0 none)),(3,dc i3)]
theorem qDw (K:Ex→Fr→OA):∀ (n:Nat) (t0:LI) (i3:Int),evLP E_z12 n (sub C_z12 [1,0,1,0,0]) K (qyj t0 i3)=qpJ (qrL K) (K (.exit 0) (frOf [])) n t0 i3:=by
 intro n;induction n with
 | zero=>intros; rfl
 | succ n IH =>
 intro t0 i3;have ih:(fun t0 i3=>evLP E_z12 n (sub C_z12 [1,0,1,0,0]) K (qyj t0 i3))=qpJ (qrL K) (K (.exit 0) (frOf [])) n:=by
  funext t0 i3;exact IH t0 i3
 show _=qge (qrL K) (K (.exit 0) (frOf [])) (qpJ (qrL K) (K (.exit 0) (frOf [])) n) n t0 i3;rw [← ih];kernel_rfl
theorem quF (n:Nat)  : (qrM n) (.exit 0) (frOf [])=qiT n  := by
 kernel_rfl
theorem qQM (n:Nat) (t0:LI) (o0:Lab):evFnP E_z12 n C_z12 R_z12 [.dat (.sl (.int .i32)) t0 o0]=qEW n t0:=by
 unfold qEW;rw [show qpJ qiS (qiT n) n=(fun t0 i3=>evLP E_z12 n (sub C_z12 [1,0,1,0,0]) (qrM n) (qyj t0 i3)) from by
  funext t0 i3;refine Eq.trans ?_ (qDw (qrM n) n t0 i3).symm;rw [show ((qrM n) (.exit 0) (frOf []))=(qiT n) from by
   exact quF n ]
  all_goals kernel_rfl]
 kernel_rfl
theorem qDx:qf G Tryz.prog 12 s_z12:=by
 refine sQ (E:=E_z12) (c:=C_z12) rfl (fun w S hg=>(qa (qlg w S hg) qd)) Tryz.func12 ?_;intro avs r h;unfold s_z12 at h;split at h
 ·obtain ⟨hp,rfl⟩:=yj h;obtain ⟨n,hn⟩:=qKV _ hp;exact ⟨n,_,(qQM n _ _).trans hn,.inl rfl⟩
 ·cases h
def qlh:EnvP:=eQ [] 17 (some [4]) (fun x=>if x=2 then some [0,1,5] else none) (fun x=>if x=0 then some [] else if x=1 then some [0,1,5] else none) nP
def quG:Code:=cO Tryz.f121
def qNO:Array ResultVar:=Tryz.f121.results
noncomputable def qli (K:Ex→Fr→OA):=fun s4=>K .ret (frOf [(4,dg s4)])
def qlj (n:Nat):Ex→Fr→OA:=qw 0 (qlh.cutb 0) (kSeq (evCP qlh (evLP qlh n) (sub quG [1,1])) (kFnP qlh qNO))
def qpg (s0:LU) (c1:UInt8) (i5:Int):Fr:=frOf [(0,(df s0 none)),(1,dn c1),(5,dc i5)]
theorem qyk (K:Ex→Fr→OA):∀ (n:Nat) (s0:LU) (c1:UInt8) (i5:Int),evLP qlh n (sub quG [1,0,1,0,0]) K (qpg s0 c1 i5)=qfl (qli K) (K (.exit 0) (frOf [])) n s0 c1 i5:=by
 intro n;induction n with
 | zero=>intros; rfl
 | succ n IH =>
 intro s0 c1 i5;have ih:(fun s0 c1 i5=>evLP qlh n (sub quG [1,0,1,0,0]) K (qpg s0 c1 i5))=qfl (qli K) (K (.exit 0) (frOf [])) n:=by
  funext s0 c1 i5;exact IH s0 c1 i5
 show _=qdN (qli K) (K (.exit 0) (frOf [])) (qfl (qli K) (K (.exit 0) (frOf [])) n) n s0 c1 i5;rw [← ih];kernel_rfl
theorem qph (n:Nat)  : (qlj n) (.exit 0) (frOf [])=qfm n  := by
 kernel_rfl
theorem qNP (n:Nat) (s0:LU) (o0:Lab) (c1:UInt8) (o1:Lab):evFnP qlh n quG qNO [df s0 o0,dp c1 o1]=qnN n s0 c1:=by
 unfold qnN;rw [show qfl qgf (qfm n) n=(fun s0 c1 i5=>evLP qlh n (sub quG [1,0,1,0,0]) (qlj n) (qpg s0 c1 i5)) from by
  funext s0 c1 i5;refine Eq.trans ?_ (qyk (qlj n) n s0 c1 i5).symm;rw [show ((qlj n) (.exit 0) (frOf []))=(qfm n) from by
   exact qph n ]
  all_goals kernel_rfl]
 kernel_rfl
theorem qyl:qf G Tryz.prog 121 s_z121:=by
 refine sQ (E:=qlh) (c:=quG) rfl (fun w S hg=>qd) Tryz.func121 ?_;intro avs r h;unfold s_z121 at h;split at h
 ·obtain ⟨hp,rfl⟩:=yj h;obtain ⟨n,hn⟩:=qFr _ _ hp;exact ⟨n,_,(qNP n _ _ _ _).trans hn,.inl rfl⟩
 ·cases h
def qbI:EnvP:=eQ [(121,s_z121)] 104 (some [2]) nC nC nP
def qbJ:Code:=cO Tryz.f103
def qbS:Array ResultVar:=Tryz.f103.results
def resI:OA→Int→Bool
 | some (dc x),v=>x==v
 | _,_=>false
theorem qNQ {o:OA} {v:Int} (h:resI o v=true):o=some (dc v):=by
 unfold resI at h;split at h
 ·simp only [beq_iff_eq] at h;subst h;rfl
 ·cases h
theorem qQN:∀ i:Fin 16,resI (evFnP qbI 1 qbJ qbS [dp (UInt8.ofNat (0+i.val)) none]) (z103 (UInt8.ofNat (0+i.val)))=true:=by decide +kernel
theorem qQO:∀ i:Fin 16,resI (evFnP qbI 1 qbJ qbS [dp (UInt8.ofNat (16+i.val)) none]) (z103 (UInt8.ofNat (16+i.val)))=true:=by decide +kernel
theorem qQP:∀ i:Fin 16,resI (evFnP qbI 1 qbJ qbS [dp (UInt8.ofNat (32+i.val)) none]) (z103 (UInt8.ofNat (32+i.val)))=true:=by decide +kernel
theorem qQQ:∀ i:Fin 16,resI (evFnP qbI 1 qbJ qbS [dp (UInt8.ofNat (48+i.val)) none]) (z103 (UInt8.ofNat (48+i.val)))=true:=by decide +kernel
theorem qQR:∀ i:Fin 16,resI (evFnP qbI 1 qbJ qbS [dp (UInt8.ofNat (64+i.val)) none]) (z103 (UInt8.ofNat (64+i.val)))=true:=by decide +kernel
theorem qQS:∀ i:Fin 16,resI (evFnP qbI 1 qbJ qbS [dp (UInt8.ofNat (80+i.val)) none]) (z103 (UInt8.ofNat (80+i.val)))=true:=by decide +kernel
theorem qQT:∀ i:Fin 16,resI (evFnP qbI 1 qbJ qbS [dp (UInt8.ofNat (96+i.val)) none]) (z103 (UInt8.ofNat (96+i.val)))=true:=by decide +kernel
theorem qQU:∀ i:Fin 16,resI (evFnP qbI 1 qbJ qbS [dp (UInt8.ofNat (112+i.val)) none]) (z103 (UInt8.ofNat (112+i.val)))=true:=by decide +kernel
theorem qQV:∀ i:Fin 16,resI (evFnP qbI 1 qbJ qbS [dp (UInt8.ofNat (128+i.val)) none]) (z103 (UInt8.ofNat (128+i.val)))=true:=by decide +kernel
theorem qQW:∀ i:Fin 16,resI (evFnP qbI 1 qbJ qbS [dp (UInt8.ofNat (144+i.val)) none]) (z103 (UInt8.ofNat (144+i.val)))=true:=by decide +kernel
theorem qNR:∀ i:Fin 16,resI (evFnP qbI 1 qbJ qbS [dp (UInt8.ofNat (160+i.val)) none]) (z103 (UInt8.ofNat (160+i.val)))=true:=by decide +kernel
theorem qNS:∀ i:Fin 16,resI (evFnP qbI 1 qbJ qbS [dp (UInt8.ofNat (176+i.val)) none]) (z103 (UInt8.ofNat (176+i.val)))=true:=by decide +kernel
theorem qNT:∀ i:Fin 16,resI (evFnP qbI 1 qbJ qbS [dp (UInt8.ofNat (192+i.val)) none]) (z103 (UInt8.ofNat (192+i.val)))=true:=by decide +kernel
theorem qNU:∀ i:Fin 16,resI (evFnP qbI 1 qbJ qbS [dp (UInt8.ofNat (208+i.val)) none]) (z103 (UInt8.ofNat (208+i.val)))=true:=by decide +kernel
theorem qNV:∀ i:Fin 16,resI (evFnP qbI 1 qbJ qbS [dp (UInt8.ofNat (224+i.val)) none]) (z103 (UInt8.ofNat (224+i.val)))=true:=by decide +kernel
theorem qNW:∀ i:Fin 16,resI (evFnP qbI 1 qbJ qbS [dp (UInt8.ofNat (240+i.val)) none]) (z103 (UInt8.ofNat (240+i.val)))=true:=by decide +kernel
theorem qIo:∀ i:Fin 256,resI (evFnP qbI 1 qbJ qbS [dp (UInt8.ofNat (i.val)) none]) (z103 (UInt8.ofNat (i.val)))=true:=fun ⟨i,hi⟩=>by
 rcases (show i / 16=0∨i / 16=1∨i / 16=2∨i / 16=3∨i / 16=4∨i / 16=5∨i / 16=6∨i / 16=7∨i / 16=8∨i / 16=9∨i / 16=10∨i / 16=11∨i / 16=12∨i / 16=13∨i / 16=14∨i / 16=15 by omega) with e | e | e | e | e | e | e | e | e | e | e | e | e | e | e | e
 ·have h:=qQN ⟨i - 0,by omega⟩;have e2:0+(i - 0)=i:=by omega
  simp only [e2] at h;exact h
 ·have h:=qQO ⟨i - 16,by omega⟩;have e2:16+(i - 16)=i:=by omega
  simp only [e2] at h;exact h
 ·have h:=qQP ⟨i - 32,by omega⟩;have e2:32+(i - 32)=i:=by omega
  simp only [e2] at h;exact h
 ·have h:=qQQ ⟨i - 48,by omega⟩;have e2:48+(i - 48)=i:=by omega
  simp only [e2] at h;exact h
 ·have h:=qQR ⟨i - 64,by omega⟩;have e2:64+(i - 64)=i:=by omega
  simp only [e2] at h;exact h
 ·have h:=qQS ⟨i - 80,by omega⟩;have e2:80+(i - 80)=i:=by omega
  simp only [e2] at h;exact h
 ·have h:=qQT ⟨i - 96,by omega⟩;have e2:96+(i - 96)=i:=by omega
  simp only [e2] at h;exact h
 ·have h:=qQU ⟨i - 112,by omega⟩;have e2:112+(i - 112)=i:=by omega
  simp only [e2] at h;exact h
 ·have h:=qQV ⟨i - 128,by omega⟩;have e2:128+(i - 128)=i:=by omega
  simp only [e2] at h;exact h
 ·have h:=qQW ⟨i - 144,by omega⟩;have e2:144+(i - 144)=i:=by omega
  simp only [e2] at h;exact h
 ·have h:=qNR ⟨i - 160,by omega⟩;have e2:160+(i - 160)=i:=by omega
  simp only [e2] at h;exact h
 ·have h:=qNS ⟨i - 176,by omega⟩;have e2:176+(i - 176)=i:=by omega
  simp only [e2] at h;exact h
 ·have h:=qNT ⟨i - 192,by omega⟩;have e2:192+(i - 192)=i:=by omega
  simp only [e2] at h;exact h
 ·have h:=qNU ⟨i - 208,by omega⟩;have e2:208+(i - 208)=i:=by omega
  simp only [e2] at h;exact h
 ·have h:=qNV ⟨i - 224,by omega⟩;have e2:224+(i - 224)=i:=by omega
  simp only [e2] at h;exact h
 ·have h:=qNW ⟨i - 240,by omega⟩;have e2:240+(i - 240)=i:=by omega
  simp only [e2] at h;exact h
theorem qNX (c:UInt8) (o:Lab):evFnP qbI 1 qbJ qbS [dp c o]=some (de (z103 c) none):=by
 have h:resI (evFnP qbI 1 qbJ qbS [dp c none]) (z103 c)=true:=qlU (P:=fun c=>resI (evFnP qbI 1 qbJ qbS [dp c none]) (z103 c)=true) qIo c;have e:evFnP qbI 1 qbJ qbS [dp c o]=evFnP qbI 1 qbJ qbS [dp c none]:=by
  unfold evFnP;have:(fun t=>(([dp c o]:List AV).getD t .bad).strip)=fun t=>(([dp c none]:List AV).getD t .bad).strip:=by
   funext t;match t with
   | 0=>rfl
   | t+1=>rfl
  rw [this];rfl
 rw [e];exact qNQ h
theorem qym:qf G Tryz.prog 103 s_z103:=by
 refine qM G_stays (E:=qbI) (fn:=Tryz.f103) (c:=qbJ) (qo rfl qcq) (fun w S hg=>⟨⟨(qa (qyl w S hg) qd),fun f sp h=>qaN f sp h w S⟩,qaU w S hg,(fun _ _ h=>by cases h),(fun _ _ h=>by cases h),(fun _ _ h=>by cases h),(fun t kt vt h=>qaP t kt vt h)⟩) follows Tryz.func103 (by kernel_rfl) (by kernel_rfl) (by kernel_rfl) ?_;intro avs r h;unfold s_z103 at h;split at h
 ·simp only [yb,true_and] at h;subst h;exact ⟨1,_,qNX _ _,.inl rfl⟩
 ·cases h
def E_z82:EnvP:=eQ [(103,s_z103)] 10 (some [4]) nC nC nP
def C_z82:Code:=cO Tryz.f82
def R_z82:Array ResultVar:=Tryz.f82.results
theorem qQX (n:Nat) (c0:UInt8) (o0:Lab) (kinds1:Int) (o1:Lab):evFnP E_z82 n C_z82 R_z82 [dp c0 o0,de kinds1 o1]=qOI n c0 kinds1:=by
 kernel_rfl
theorem qrN:qf G Tryz.prog 82 s_z82:=by
 refine sQ (E:=E_z82) (c:=C_z82) rfl (fun w S hg=>(qa (qym w S hg) qd)) Tryz.func82 ?_;intro avs r h;unfold s_z82 at h;split at h <;> cases h
 obtain ⟨n,hn⟩:=qKt _ _;exact ⟨n,_,(qQX n _ _ _ _).trans hn,.inl rfl⟩
end
end Go.Av
