import Derived.Test.YtopepdfipgfakaaGreatDoorEfEvA
import Derived.Test.YtopepdfipgfakaaGreatDoorEfLayX
import Derived.Test.YtopepdfipgfakaaGreatDoorProg
import Derived.KernelRfl
namespace Go.Av
noncomputable section
open Go.Proofs
set_option maxRecDepth 100000
def E_z80:EnvP:=eQ [(127,s_z127)] 11 (some [4]) nC nC nP
def C_z80:Code:=cO Tryz.f80
def R_z80:Array ResultVar:=Tryz.f80.results
theorem qKh (n:Nat) (s0:LU) (o0:Lab) (kinds1:Int) (o1:Lab):evFnP E_z80 n C_z80 R_z80 [.dat (.sl .byte) s0 o0,.dat (.int .i64) kinds1 o1]=qEf n s0 kinds1:=by
 kernel_rfl
theorem qor:qe G Tryz.prog 80 s_z80:=by
 refine sQ (E:=E_z80) (c:=C_z80) rfl (fun w S hg=>(qa (qsY w S hg) qd)) Tryz.func80 ?_
 intro avs r h
 unfold s_z80 at h
 split at h
 ·obtain ⟨hp,rfl⟩:=Prod.mk.inj h
  obtain ⟨n,hn⟩:=qET _ _ hp
  exact ⟨n,_,(qKh n _ _ _ _).trans hn,.inl rfl⟩
 ·cases h
def E_z40:EnvP:=eQ [(80,s_z80)] 13 (some [4]) nC nC nP
def C_z40:Code:=cO Tryz.f40
def R_z40:Array ResultVar:=Tryz.f40.results
theorem qKi (n:Nat) (s0:LU) (o0:Lab) (kinds1:Int) (o1:Lab):evFnP E_z40 n C_z40 R_z40 [.dat (.sl .byte) s0 o0,.dat (.int .i64) kinds1 o1]=qEg n s0 kinds1:=by
 kernel_rfl
theorem qyh:qe G Tryz.prog 40 s_z40:=by
 refine sQ (E:=E_z40) (c:=C_z40) rfl (fun w S hg=>(qa (qor w S hg) qd)) Tryz.func40 ?_
 intro avs r h
 unfold s_z40 at h
 split at h
 ·obtain ⟨hp,rfl⟩:=Prod.mk.inj h
  obtain ⟨n,hn⟩:=qFb _ _ hp
  exact ⟨n,_,(qKi n _ _ _ _).trans hn,.inl rfl⟩
 ·cases h
def E_z11:EnvP:=eQ [(37,s_z37),(38,s_z38),(39,s_z39),(40,s_z40)] 64 (some [2,3]) nC (fun x=>if x=0 then some [2,5] else none) nP
def C_z11:Code:=cO Tryz.f11
def R_z11:Array ResultVar:=Tryz.f11.results
theorem qKj (n:Nat) (s0:LU) (o0:Lab):evFnP E_z11 n C_z11 R_z11 [.dat (.sl .byte) s0 o0]=qEh n s0:=by
 kernel_rfl
theorem qgk:qe G Tryz.prog 11 s_z11:=by
 refine sQ (E:=E_z11) (c:=C_z11) rfl (fun w S hg=>(qa (qye w S hg) (qa (qgj w S hg) (qa (qyg w S hg) (qa (qyh w S hg) qd))))) Tryz.func11 ?_
 intro avs r h
 unfold s_z11 at h
 split at h
 ·obtain ⟨hp,rfl⟩:=Prod.mk.inj h
  obtain ⟨n,hn⟩:=qFd _ hp
  exact ⟨n,_,(qKj n _ _).trans hn,.inl rfl⟩
 ·cases h
def E_z14:EnvP:=eQ [(11,s_z11)] 12 (some [2]) nC nC nP
def C_z14:Code:=cO Tryz.f14
def R_z14:Array ResultVar:=Tryz.f14.results
theorem qKk (n:Nat) (s0:LU) (o0:Lab):evFnP E_z14 n C_z14 R_z14 [.dat (.sl .byte) s0 o0]=qEi n s0:=by
 kernel_rfl
theorem qyi:qe G Tryz.prog 14 s_z14:=by
 refine sQ (E:=E_z14) (c:=C_z14) rfl (fun w S hg=>(qa (qgk w S hg) qd)) Tryz.func14 ?_
 intro avs r h
 unfold s_z14 at h
 split at h
 ·obtain ⟨hp,rfl⟩:=Prod.mk.inj h
  obtain ⟨n,hn⟩:=qFe _ hp
  exact ⟨n,_,(qKk n _ _).trans hn,.inl rfl⟩
 ·cases h
def E_z44:EnvP:=eQ [] 9 (some [2]) nC nC nP
def C_z44:Code:=cO Tryz.f44
def R_z44:Array ResultVar:=Tryz.f44.results
theorem qKl (n:Nat) (n0:Int) (o0:Lab):evFnP E_z44 n C_z44 R_z44 [.dat (.int .i64) n0 o0]=qEj n n0:=by
 kernel_rfl
theorem qos:qe G Tryz.prog 44 s_z44:=by
 refine sQ (E:=E_z44) (c:=C_z44) rfl (fun w S hg=>qd) Tryz.func44 ?_
 intro avs r h
 unfold s_z44 at h
 split at h <;> cases h
 obtain ⟨n,hn⟩:=qFp _
 exact ⟨n,_,(qKl n _ _).trans hn,.inl rfl⟩
def E_z45:EnvP:=eQ [] 8 (some [2]) nC (fun x=>if x=0 then some [] else none) nP
def C_z45:Code:=cO Tryz.f45
def R_z45:Array ResultVar:=Tryz.f45.results
theorem qKm (n:Nat) (n0:Int) (o0:Lab):evFnP E_z45 n C_z45 R_z45 [.dat (.int .i64) n0 o0]=qEk n n0:=by
 kernel_rfl
theorem qot:qe G Tryz.prog 45 s_z45:=by
 refine sQ (E:=E_z45) (c:=C_z45) rfl (fun w S hg=>qd) Tryz.func45 ?_
 intro avs r h
 unfold s_z45 at h
 split at h <;> cases h
 obtain ⟨n,hn⟩:=qFq _
 exact ⟨n,_,(qKm n _ _).trans hn,.inl rfl⟩
def E_z84:EnvP:=eQ [(129,s_z129)] 9 (some [2]) nC nC nP
def C_z84:Code:=cO Tryz.f84
def R_z84:Array ResultVar:=Tryz.f84.results
theorem qKn (n:Nat) (c0:UInt8) (o0:Lab):evFnP E_z84 n C_z84 R_z84 [.dat .byte c0 o0]=qEl n c0:=by
 kernel_rfl
theorem qou:qe G Tryz.prog 84 s_z84:=by
 refine sQ (E:=E_z84) (c:=C_z84) rfl (fun w S hg=>(qa (qhd w S hg) qd)) Tryz.func84 ?_
 intro avs r h
 unfold s_z84 at h
 split at h <;> cases h
 obtain ⟨n,hn⟩:=qFt _
 exact ⟨n,_,(qKn n _ _).trans hn,.inl rfl⟩
def E_z83:EnvP:=eQ [(84,s_z84)] 18 (some [2]) (fun x=>if x=3 then some [3,6,7,8] else none) (fun x=>if x=0 then some [3] else if x=1 then some [3,6,7,8] else none) nP
def C_z83:Code:=cO Tryz.f83
def R_z83:Array ResultVar:=Tryz.f83.results
theorem qyj (K:Ex→Fr→OA):∀ (n:Nat) (n3:Int) (s6:LU) (s7:Int) (s8:Int),evLP E_z83 n (sub C_z83 [1,1,0,1,0,0]) K (frOf [(3,(.dat (.int .i64) n3 none)),(6,(.dat (.sl .byte) s6 none)),(7,(.dat (.int .i64) s7 none)),(8,(.dat (.int .i64) s8 none))])=qnh (fun n3=>K (.exit 0) (frOf [(3,(.dat (.int .i64) n3 none))])) n n3 s6 s7 s8:=by
 intro n
 induction n with
 | zero=>intros; rfl
 | succ n IH =>
 intro n3 s6 s7 s8
 have ih:(fun n3 s6 s7 s8=>evLP E_z83 n (sub C_z83 [1,1,0,1,0,0]) K (frOf [(3,(.dat (.int .i64) n3 none)),(6,(.dat (.sl .byte) s6 none)),(7,(.dat (.int .i64) s7 none)),(8,(.dat (.int .i64) s8 none))]))=qnh (fun n3=>K (.exit 0) (frOf [(3,(.dat (.int .i64) n3 none))])) n:=by
  funext n3 s6 s7 s8
  exact IH n3 s6 s7 s8
 show _=qfj (fun n3=>K (.exit 0) (frOf [(3,(.dat (.int .i64) n3 none))])) (qnh (fun n3=>K (.exit 0) (frOf [(3,(.dat (.int .i64) n3 none))])) n) n n3 s6 s7 s8
 rw [← ih]
 kernel_rfl
theorem qqs (n:Nat) (n3:Int):(qb 0 (E_z83.cutb 0) (kSeq (evCP E_z83 (evLP E_z83 n) (sub C_z83 [1,1,1])) (kFnP E_z83 R_z83))) (.exit 0) (frOf [(3,(.dat (.int .i64) n3 none))])=qhp n n3:=by
 kernel_rfl
theorem qKo (n:Nat) (s0:LU) (o0:Lab):evFnP E_z83 n C_z83 R_z83 [.dat (.sl .byte) s0 o0]=qAn n s0:=by
 unfold qAn
 rw [show qnh (qhp n) n=(fun n3 s6 s7 s8=>evLP E_z83 n (sub C_z83 [1,1,0,1,0,0]) (qb 0 (E_z83.cutb 0) (kSeq (evCP E_z83 (evLP E_z83 n) (sub C_z83 [1,1,1])) (kFnP E_z83 R_z83))) (frOf [(3,(.dat (.int .i64) n3 none)),(6,(.dat (.sl .byte) s6 none)),(7,(.dat (.int .i64) s7 none)),(8,(.dat (.int .i64) s8 none))])) from by
  funext n3 s6 s7 s8
  refine Eq.trans ?_ (qyj (qb 0 (E_z83.cutb 0) (kSeq (evCP E_z83 (evLP E_z83 n) (sub C_z83 [1,1,1])) (kFnP E_z83 R_z83))) n n3 s6 s7 s8).symm
  rw [show (fun n3=>(qb 0 (E_z83.cutb 0) (kSeq (evCP E_z83 (evLP E_z83 n) (sub C_z83 [1,1,1])) (kFnP E_z83 R_z83))) (.exit 0) (frOf [(3,(.dat (.int .i64) n3 none))]))=(qhp n) from by
   funext n3
   exact qqs n n3]
  all_goals kernel_rfl]
 kernel_rfl
theorem qyk:qe G Tryz.prog 83 s_z83:=by
 refine sQ (E:=E_z83) (c:=C_z83) rfl (fun w S hg=>(qa (qou w S hg) qd)) Tryz.func83 ?_
 intro avs r h
 unfold s_z83 at h
 split at h
 ·obtain ⟨hp,rfl⟩:=Prod.mk.inj h
  obtain ⟨n,hn⟩:=qFu _ hp
  exact ⟨n,_,(qKo n _ _).trans hn,.inl rfl⟩
 ·cases h
def qGT:EnvP:=eQ [] 6 (some [2]) nC nC nP
def qGU:Code:=cO Tryz.f181
def qKp:Array ResultVar:=Tryz.f181.results
theorem qGV (n:Nat) (n0:Int) (o0:Lab):evFnP qGT n qGU qKp [.dat (.int .i64) n0 o0]=qvH n n0:=by
 kernel_rfl
theorem qsZ:qe G Tryz.prog 181 s_z181:=by
 refine sQ (E:=qGT) (c:=qGU) rfl (fun w S hg=>qd) Tryz.func181 ?_
 intro avs r h
 unfold s_z181 at h
 split at h
 ·obtain ⟨hp,rfl⟩:=Prod.mk.inj h
  obtain ⟨n,hn⟩:=qAW _ hp
  exact ⟨n,_,(qGV n _ _).trans hn,.inl rfl⟩
 ·cases h
def qGW:EnvP:=eQ [(181,s_z181)] 11 (some [2]) nC nC nP
def qGX:Code:=cO Tryz.f130
def qKq:Array ResultVar:=Tryz.f130.results
theorem qGY (n:Nat) (c0:UInt8) (o0:Lab):evFnP qGW n qGX qKq [.dat .byte c0 o0]=qvJ n c0:=by
 kernel_rfl
theorem qta:qe G Tryz.prog 130 s_z130:=by
 refine sQ (E:=qGW) (c:=qGX) rfl (fun w S hg=>(qa (qsZ w S hg) qd)) Tryz.func130 ?_
 intro avs r h
 unfold s_z130 at h
 split at h <;> cases h
 obtain ⟨n,hn⟩:=qBf _
 exact ⟨n,_,(qGY n _ _).trans hn,.inl rfl⟩
def E_z85:EnvP:=eQ [(38,s_z38),(130,s_z130)] 15 (some [6]) nC nC nP
def C_z85:Code:=cO Tryz.f85
def R_z85:Array ResultVar:=Tryz.f85.results
theorem qKr (n:Nat) (b0:LU) (o0:Lab) (sign1:UInt8) (o1:Lab) (c2:UInt8) (o2:Lab):evFnP E_z85 n C_z85 R_z85 [.dat (.sl .byte) b0 o0,.dat .byte sign1 o1,.dat .byte c2 o2]=qEm n b0 sign1 c2:=by
 kernel_rfl
theorem qyl:qe G Tryz.prog 85 s_z85:=by
 refine sQ (E:=E_z85) (c:=C_z85) rfl (fun w S hg=>(qa (qgj w S hg) (qa (qta w S hg) qd))) Tryz.func85 ?_
 intro avs r h
 unfold s_z85 at h
 split at h
 ·obtain ⟨hp,rfl⟩:=Prod.mk.inj h
  obtain ⟨n,hn⟩:=qFj _ _ _ hp
  exact ⟨n,_,(qKr n _ _ _ _ _ _).trans hn,.inl rfl⟩
 ·cases h
def E_z46:EnvP:=eQ [(83,s_z83),(84,s_z84),(85,s_z85)] 34 (some [2]) (fun x=>if x=3 then some [3,9,10,11] else none) (fun x=>if x=0 then some [3] else if x=1 then some [3,9,10,11] else if x=2 then some [3,9,10,11] else none) nP
def C_z46:Code:=cO Tryz.f46
def R_z46:Array ResultVar:=Tryz.f46.results
theorem qym (K:Ex→Fr→OA):∀ (n:Nat) (out3:LU) (s9:LU) (s10:Int) (s11:Int),evLP E_z46 n (sub C_z46 [1,1,0,1,0,0]) K (frOf [(3,(.dat (.sl .byte) out3 (some (3,5)))),(9,(.dat (.sl .byte) s9 none)),(10,(.dat (.int .i64) s10 none)),(11,(.dat (.int .i64) s11 none))])=qni (fun out3=>K (.exit 0) (frOf [(3,(.dat (.sl .byte) out3 (some (3,5))))])) n out3 s9 s10 s11:=by
 intro n
 induction n with
 | zero=>intros; rfl
 | succ n IH =>
 intro out3 s9 s10 s11
 have ih:(fun out3 s9 s10 s11=>evLP E_z46 n (sub C_z46 [1,1,0,1,0,0]) K (frOf [(3,(.dat (.sl .byte) out3 (some (3,5)))),(9,(.dat (.sl .byte) s9 none)),(10,(.dat (.int .i64) s10 none)),(11,(.dat (.int .i64) s11 none))]))=qni (fun out3=>K (.exit 0) (frOf [(3,(.dat (.sl .byte) out3 (some (3,5))))])) n:=by
  funext out3 s9 s10 s11
  exact IH out3 s9 s10 s11
 show _=qfk (fun out3=>K (.exit 0) (frOf [(3,(.dat (.sl .byte) out3 (some (3,5))))])) (qni (fun out3=>K (.exit 0) (frOf [(3,(.dat (.sl .byte) out3 (some (3,5))))])) n) n out3 s9 s10 s11
 rw [← ih]
 kernel_rfl
theorem qqt (n:Nat) (out3:LU):(qb 0 (E_z46.cutb 0) (kSeq (evCP E_z46 (evLP E_z46 n) (sub C_z46 [1,1,1])) (kFnP E_z46 R_z46))) (.exit 0) (frOf [(3,(.dat (.sl .byte) out3 (some (3,5))))])=qhq n out3:=by
 kernel_rfl
theorem qKs (n:Nat) (s0:LU) (o0:Lab):evFnP E_z46 n C_z46 R_z46 [.dat (.sl .byte) s0 o0]=qAo n s0:=by
 unfold qAo
 rw [show qni (qhq n) n=(fun out3 s9 s10 s11=>evLP E_z46 n (sub C_z46 [1,1,0,1,0,0]) (qb 0 (E_z46.cutb 0) (kSeq (evCP E_z46 (evLP E_z46 n) (sub C_z46 [1,1,1])) (kFnP E_z46 R_z46))) (frOf [(3,(.dat (.sl .byte) out3 (some (3,5)))),(9,(.dat (.sl .byte) s9 none)),(10,(.dat (.int .i64) s10 none)),(11,(.dat (.int .i64) s11 none))])) from by
  funext out3 s9 s10 s11
  refine Eq.trans ?_ (qym (qb 0 (E_z46.cutb 0) (kSeq (evCP E_z46 (evLP E_z46 n) (sub C_z46 [1,1,1])) (kFnP E_z46 R_z46))) n out3 s9 s10 s11).symm
  rw [show (fun out3=>(qb 0 (E_z46.cutb 0) (kSeq (evCP E_z46 (evLP E_z46 n) (sub C_z46 [1,1,1])) (kFnP E_z46 R_z46))) (.exit 0) (frOf [(3,(.dat (.sl .byte) out3 (some (3,5))))]))=(qhq n) from by
   funext out3
   exact qqt n out3]
  all_goals kernel_rfl]
 kernel_rfl
theorem qyn:qe G Tryz.prog 46 s_z46:=by
 refine sQ (E:=E_z46) (c:=C_z46) rfl (fun w S hg=>(qa (qyk w S hg) (qa (qou w S hg) (qa (qyl w S hg) qd)))) Tryz.func46 ?_
 intro avs r h
 unfold s_z46 at h
 split at h
 ·obtain ⟨hp,rfl⟩:=Prod.mk.inj h
  obtain ⟨n,hn⟩:=qDW _ hp
  exact ⟨n,_,(qKs n _ _).trans hn,.inl rfl⟩
 ·cases h
def qGZ:EnvP:=eQ [] 6 (some [2]) nC nC nP
def qHa:Code:=cO Tryz.f132
def qKt:Array ResultVar:=Tryz.f132.results
theorem qHb (n:Nat) (n0:Int) (o0:Lab):evFnP qGZ n qHa qKt [.dat (.int .i64) n0 o0]=qvL n n0:=by
 kernel_rfl
theorem qtb:qe G Tryz.prog 132 s_z132:=by
 refine sQ (E:=qGZ) (c:=qHa) rfl (fun w S hg=>qd) Tryz.func132 ?_
 intro avs r h
 unfold s_z132 at h
 split at h <;> cases h
 obtain ⟨n,hn⟩:=qzx _
 exact ⟨n,_,(qHb n _ _).trans hn,.inl rfl⟩
def E_z88:EnvP:=eQ [(132,s_z132)] 49 (some [2]) (fun x=>if x=4 then some [3,4,5,8,9,10] else if x=8 then some [3,4,5,8,9,10] else none) (fun x=>if x=0 then some [3,4,5] else if x=1 then some [3,4,5,8,9,10] else if x=2 then some [3,4,5,8,9,10] else if x=3 then some [3,4,5,8,9,10] else none) nP
def C_z88:Code:=cO Tryz.f88
def R_z88:Array ResultVar:=Tryz.f88.results
theorem qyo (K:Ex→Fr→OA):∀ (n:Nat) (out3:LU) (held4:Int) (many5:Int) (s8:LU) (s9:Int) (s10:Int),evLP E_z88 n (sub C_z88 [1,1,1,0,1,0,0,1,1,0,0,1,1,1,0,0,0]) K (frOf [(3,(.dat (.sl .byte) out3 (some (3,5)))),(4,(.dat (.int .i64) held4 none)),(5,(.dat (.int .i64) many5 none)),(8,(.dat (.sl .byte) s8 none)),(9,(.dat (.int .i64) s9 none)),(10,(.dat (.int .i64) s10 none))])=qfl (fun out3 held4 many5 s8 s9 s10=>K (.exit 2) (frOf [(3,(.dat (.sl .byte) out3 (some (3,5)))),(4,(.dat (.int .i64) held4 none)),(5,(.dat (.int .i64) many5 none)),(8,(.dat (.sl .byte) s8 none)),(9,(.dat (.int .i64) s9 none)),(10,(.dat (.int .i64) s10 none))])) n out3 held4 many5 s8 s9 s10:=by
 intro n
 induction n with
 | zero=>intros; rfl
 | succ n IH =>
 intro out3 held4 many5 s8 s9 s10
 have ih:(fun out3 held4 many5 s8 s9 s10=>evLP E_z88 n (sub C_z88 [1,1,1,0,1,0,0,1,1,0,0,1,1,1,0,0,0]) K (frOf [(3,(.dat (.sl .byte) out3 (some (3,5)))),(4,(.dat (.int .i64) held4 none)),(5,(.dat (.int .i64) many5 none)),(8,(.dat (.sl .byte) s8 none)),(9,(.dat (.int .i64) s9 none)),(10,(.dat (.int .i64) s10 none))]))=qfl (fun out3 held4 many5 s8 s9 s10=>K (.exit 2) (frOf [(3,(.dat (.sl .byte) out3 (some (3,5)))),(4,(.dat (.int .i64) held4 none)),(5,(.dat (.int .i64) many5 none)),(8,(.dat (.sl .byte) s8 none)),(9,(.dat (.int .i64) s9 none)),(10,(.dat (.int .i64) s10 none))])) n:=by
  funext out3 held4 many5 s8 s9 s10
  exact IH out3 held4 many5 s8 s9 s10
 show _=qvM (fun out3 held4 many5 s8 s9 s10=>K (.exit 2) (frOf [(3,(.dat (.sl .byte) out3 (some (3,5)))),(4,(.dat (.int .i64) held4 none)),(5,(.dat (.int .i64) many5 none)),(8,(.dat (.sl .byte) s8 none)),(9,(.dat (.int .i64) s9 none)),(10,(.dat (.int .i64) s10 none))])) (qfl (fun out3 held4 many5 s8 s9 s10=>K (.exit 2) (frOf [(3,(.dat (.sl .byte) out3 (some (3,5)))),(4,(.dat (.int .i64) held4 none)),(5,(.dat (.int .i64) many5 none)),(8,(.dat (.sl .byte) s8 none)),(9,(.dat (.int .i64) s9 none)),(10,(.dat (.int .i64) s10 none))])) n) n out3 held4 many5 s8 s9 s10
 rw [← ih]
 kernel_rfl
theorem qqu (K:Ex→Fr→OA) (n:Nat) (out3:LU) (held4:Int) (many5:Int) (s8:LU) (s9:Int) (s10:Int):(qb 2 (E_z88.cutb 2) (kSeq (evCP E_z88 (evLP E_z88 n) (sub C_z88 [1,1,1,0,1,0,0,1,1,0,0,1,1,1,1])) (qb 1 (E_z88.cutb 1) (kSeq (evCP E_z88 (evLP E_z88 n) (sub C_z88 [1,1,1,0,1,0,0,1,1,1])) (kSeq (fun K fr=>evLP E_z88 n (sub C_z88 [1,1,1,0,1,0,0]) K (cutFP (E_z88.cuts 4) fr)) K))))) (.exit 2) (frOf [(3,(.dat (.sl .byte) out3 (some (3,5)))),(4,(.dat (.int .i64) held4 none)),(5,(.dat (.int .i64) many5 none)),(8,(.dat (.sl .byte) s8 none)),(9,(.dat (.int .i64) s9 none)),(10,(.dat (.int .i64) s10 none))])=qcA (fun out3 held4 many5=>K (.exit 0) (frOf [(3,(.dat (.sl .byte) out3 (some (3,5)))),(4,(.dat (.int .i64) held4 none)),(5,(.dat (.int .i64) many5 none))])) (fun out3 held4 many5 s8 s9 s10=>evLP E_z88 n (sub C_z88 [1,1,1,0,1,0,0]) K (frOf [(3,(.dat (.sl .byte) out3 (some (3,5)))),(4,(.dat (.int .i64) held4 none)),(5,(.dat (.int .i64) many5 none)),(8,(.dat (.sl .byte) s8 none)),(9,(.dat (.int .i64) s9 none)),(10,(.dat (.int .i64) s10 none))])) n out3 held4 many5 s8 s9 s10:=by
 kernel_rfl
theorem qyp (K:Ex→Fr→OA):∀ (n:Nat) (out3:LU) (held4:Int) (many5:Int) (s8:LU) (s9:Int) (s10:Int),evLP E_z88 n (sub C_z88 [1,1,1,0,1,0,0]) K (frOf [(3,(.dat (.sl .byte) out3 (some (3,5)))),(4,(.dat (.int .i64) held4 none)),(5,(.dat (.int .i64) many5 none)),(8,(.dat (.sl .byte) s8 none)),(9,(.dat (.int .i64) s9 none)),(10,(.dat (.int .i64) s10 none))])=qnj (fun out3 held4 many5=>K (.exit 0) (frOf [(3,(.dat (.sl .byte) out3 (some (3,5)))),(4,(.dat (.int .i64) held4 none)),(5,(.dat (.int .i64) many5 none))])) n out3 held4 many5 s8 s9 s10:=by
 intro n
 induction n with
 | zero=>intros; rfl
 | succ n IH =>
 intro out3 held4 many5 s8 s9 s10
 have ih:(fun out3 held4 many5 s8 s9 s10=>evLP E_z88 n (sub C_z88 [1,1,1,0,1,0,0]) K (frOf [(3,(.dat (.sl .byte) out3 (some (3,5)))),(4,(.dat (.int .i64) held4 none)),(5,(.dat (.int .i64) many5 none)),(8,(.dat (.sl .byte) s8 none)),(9,(.dat (.int .i64) s9 none)),(10,(.dat (.int .i64) s10 none))]))=qnj (fun out3 held4 many5=>K (.exit 0) (frOf [(3,(.dat (.sl .byte) out3 (some (3,5)))),(4,(.dat (.int .i64) held4 none)),(5,(.dat (.int .i64) many5 none))])) n:=by
  funext out3 held4 many5 s8 s9 s10
  exact IH out3 held4 many5 s8 s9 s10
 show _=qdF (fun out3 held4 many5=>K (.exit 0) (frOf [(3,(.dat (.sl .byte) out3 (some (3,5)))),(4,(.dat (.int .i64) held4 none)),(5,(.dat (.int .i64) many5 none))])) (qnj (fun out3 held4 many5=>K (.exit 0) (frOf [(3,(.dat (.sl .byte) out3 (some (3,5)))),(4,(.dat (.int .i64) held4 none)),(5,(.dat (.int .i64) many5 none))])) n) n out3 held4 many5 s8 s9 s10
 rw [← ih]
 unfold qdF
 rw [show qfl (qcA (fun out3 held4 many5=>K (.exit 0) (frOf [(3,(.dat (.sl .byte) out3 (some (3,5)))),(4,(.dat (.int .i64) held4 none)),(5,(.dat (.int .i64) many5 none))])) (fun out3 held4 many5 s8 s9 s10=>evLP E_z88 n (sub C_z88 [1,1,1,0,1,0,0]) K (frOf [(3,(.dat (.sl .byte) out3 (some (3,5)))),(4,(.dat (.int .i64) held4 none)),(5,(.dat (.int .i64) many5 none)),(8,(.dat (.sl .byte) s8 none)),(9,(.dat (.int .i64) s9 none)),(10,(.dat (.int .i64) s10 none))])) n) n=(fun out3 held4 many5 s8 s9 s10=>evLP E_z88 n (sub C_z88 [1,1,1,0,1,0,0,1,1,0,0,1,1,1,0,0,0]) (qb 2 (E_z88.cutb 2) (kSeq (evCP E_z88 (evLP E_z88 n) (sub C_z88 [1,1,1,0,1,0,0,1,1,0,0,1,1,1,1])) (qb 1 (E_z88.cutb 1) (kSeq (evCP E_z88 (evLP E_z88 n) (sub C_z88 [1,1,1,0,1,0,0,1,1,1])) (kSeq (fun K fr=>evLP E_z88 n (sub C_z88 [1,1,1,0,1,0,0]) K (cutFP (E_z88.cuts 4) fr)) K))))) (frOf [(3,(.dat (.sl .byte) out3 (some (3,5)))),(4,(.dat (.int .i64) held4 none)),(5,(.dat (.int .i64) many5 none)),(8,(.dat (.sl .byte) s8 none)),(9,(.dat (.int .i64) s9 none)),(10,(.dat (.int .i64) s10 none))])) from by
  funext out3 held4 many5 s8 s9 s10
  refine Eq.trans ?_ (qyo (qb 2 (E_z88.cutb 2) (kSeq (evCP E_z88 (evLP E_z88 n) (sub C_z88 [1,1,1,0,1,0,0,1,1,0,0,1,1,1,1])) (qb 1 (E_z88.cutb 1) (kSeq (evCP E_z88 (evLP E_z88 n) (sub C_z88 [1,1,1,0,1,0,0,1,1,1])) (kSeq (fun K fr=>evLP E_z88 n (sub C_z88 [1,1,1,0,1,0,0]) K (cutFP (E_z88.cuts 4) fr)) K))))) n out3 held4 many5 s8 s9 s10).symm
  rw [show (fun out3 held4 many5 s8 s9 s10=>(qb 2 (E_z88.cutb 2) (kSeq (evCP E_z88 (evLP E_z88 n) (sub C_z88 [1,1,1,0,1,0,0,1,1,0,0,1,1,1,1])) (qb 1 (E_z88.cutb 1) (kSeq (evCP E_z88 (evLP E_z88 n) (sub C_z88 [1,1,1,0,1,0,0,1,1,1])) (kSeq (fun K fr=>evLP E_z88 n (sub C_z88 [1,1,1,0,1,0,0]) K (cutFP (E_z88.cuts 4) fr)) K))))) (.exit 2) (frOf [(3,(.dat (.sl .byte) out3 (some (3,5)))),(4,(.dat (.int .i64) held4 none)),(5,(.dat (.int .i64) many5 none)),(8,(.dat (.sl .byte) s8 none)),(9,(.dat (.int .i64) s9 none)),(10,(.dat (.int .i64) s10 none))]))=(qcA (fun out3 held4 many5=>K (.exit 0) (frOf [(3,(.dat (.sl .byte) out3 (some (3,5)))),(4,(.dat (.int .i64) held4 none)),(5,(.dat (.int .i64) many5 none))])) (fun out3 held4 many5 s8 s9 s10=>evLP E_z88 n (sub C_z88 [1,1,1,0,1,0,0]) K (frOf [(3,(.dat (.sl .byte) out3 (some (3,5)))),(4,(.dat (.int .i64) held4 none)),(5,(.dat (.int .i64) many5 none)),(8,(.dat (.sl .byte) s8 none)),(9,(.dat (.int .i64) s9 none)),(10,(.dat (.int .i64) s10 none))])) n) from by
   funext out3 held4 many5 s8 s9 s10
   exact qqu K n out3 held4 many5 s8 s9 s10]
  all_goals kernel_rfl]
 kernel_rfl
theorem qqv (n:Nat) (out3:LU) (held4:Int) (many5:Int):(qb 0 (E_z88.cutb 0) (kSeq (evCP E_z88 (evLP E_z88 n) (sub C_z88 [1,1,1,1])) (kFnP E_z88 R_z88))) (.exit 0) (frOf [(3,(.dat (.sl .byte) out3 (some (3,5)))),(4,(.dat (.int .i64) held4 none)),(5,(.dat (.int .i64) many5 none))])=qdG n out3 held4 many5:=by
 kernel_rfl
theorem qKu (n:Nat) (s0:LU) (o0:Lab):evFnP E_z88 n C_z88 R_z88 [.dat (.sl .byte) s0 o0]=qAp n s0:=by
 unfold qAp
 rw [show qnj (qdG n) n=(fun out3 held4 many5 s8 s9 s10=>evLP E_z88 n (sub C_z88 [1,1,1,0,1,0,0]) (qb 0 (E_z88.cutb 0) (kSeq (evCP E_z88 (evLP E_z88 n) (sub C_z88 [1,1,1,1])) (kFnP E_z88 R_z88))) (frOf [(3,(.dat (.sl .byte) out3 (some (3,5)))),(4,(.dat (.int .i64) held4 none)),(5,(.dat (.int .i64) many5 none)),(8,(.dat (.sl .byte) s8 none)),(9,(.dat (.int .i64) s9 none)),(10,(.dat (.int .i64) s10 none))])) from by
  funext out3 held4 many5 s8 s9 s10
  refine Eq.trans ?_ (qyp (qb 0 (E_z88.cutb 0) (kSeq (evCP E_z88 (evLP E_z88 n) (sub C_z88 [1,1,1,1])) (kFnP E_z88 R_z88))) n out3 held4 many5 s8 s9 s10).symm
  rw [show (fun out3 held4 many5=>(qb 0 (E_z88.cutb 0) (kSeq (evCP E_z88 (evLP E_z88 n) (sub C_z88 [1,1,1,1])) (kFnP E_z88 R_z88))) (.exit 0) (frOf [(3,(.dat (.sl .byte) out3 (some (3,5)))),(4,(.dat (.int .i64) held4 none)),(5,(.dat (.int .i64) many5 none))]))=(qdG n) from by
   funext out3 held4 many5
   exact qqv n out3 held4 many5]
  all_goals kernel_rfl]
 kernel_rfl
theorem qyq:qe G Tryz.prog 88 s_z88:=by
 refine sQ (E:=E_z88) (c:=C_z88) rfl (fun w S hg=>(qa (qtb w S hg) qd)) Tryz.func88 ?_
 intro avs r h
 unfold s_z88 at h
 split at h
 ·obtain ⟨hp,rfl⟩:=Prod.mk.inj h
  obtain ⟨n,hn⟩:=qDM _ hp
  exact ⟨n,_,(qKu n _ _).trans hn,.inl rfl⟩
 ·cases h
theorem qyr:qe G Tryz.prog 47 s_z47:=fun w S hg vals avs r h hS ha=>by
 unfold s_z47 at h
 split at h
 ·rename_i s o
  simp only [Prod.mk.injEq] at h
  obtain ⟨hp,rfl⟩:=h
  obtain ⟨u,rfl,h1⟩:=args1 ha
  obtain ⟨A,cap,rfl,hcap,hA,hcA⟩:=qff h1
  have hent:(callFunc 47 #[.slice A (List.length s) cap]).run Tryz.prog w=.ok (.enter 47 #[.slice A (List.length s) cap]) w:=enters_of (c:=Tryz.f47.body.getD .skip) Tryz.func47 (by kernel_rfl) (by kernel_rfl) _ _
  refine .inl ⟨hent,(Go.Proofs.lay_walk (S:=S) (qh hp) ?_).mono ?_⟩
  ·intro w' hb
   have hk:Keeps w S w' S:=fun b o hs=>⟨hs,qm (hb.block b (hS b o hs)) o⟩
   have hS':∀ b o,S b o→b < w'.heap.size:=fun b o hs=>Nat.lt_of_lt_of_le (hS b o hs) hb.size
   rcases qyq w' S (G_stays w S w' S hk hg) [.slice A (List.length s) cap] [.dat (.sl .byte) s none] _ (show s_z88 _=(true,_) from Prod.ext hp rfl) hS' (qif ((h1.keeps hk).relab none) (qkp _ _)) with ⟨_,h2⟩ | ⟨v,w2,h2,_⟩
   ·refine h2.mono fun e w2 ⟨v,he,S2,g2,hr⟩=>?_
    obtain ⟨A',cap',rfl,_,hA',hc'⟩:=qff hr.rd
    refine ⟨A',cap',he,g2.below,hA',fun ad ha' i x hx=>?_⟩
    have hi:=(List.getElem?_eq_some_iff.1 hx).1
    have hx':(z88 s)[i]? = some x:=hx
    have:=hc' ad ha' i hi
    rw [List.getD_eq_getElem?_getD,List.getElem?_map,hx'] at this
    exact this
   ·exfalso
    have:(callFunc 88 #[.slice A (List.length s) cap]).run Tryz.prog w'=.ok (.enter 88 #[.slice A (List.length s) cap]) w':=enters_of (c:=Tryz.f88.body.getD .skip) Tryz.func88 (by kernel_rfl) (by kernel_rfl) _ _
    rw [this] at h2
    cases h2
  ·rintro e w' ⟨v,rfl,hf,hb⟩
   exact ⟨v,rfl,Go.Proofs.res_fresh hS hb hf⟩
 ·cases h
def qHc:EnvP:=eQ [] 19 (some [2]) nC (fun x=>if x=0 then some [] else none) nP
def qHd:Code:=cO Tryz.f133
def qKv:Array ResultVar:=Tryz.f133.results
theorem qHe (n:Nat) (charset0:Int) (o0:Lab):evFnP qHc n qHd qKv [.dat (.int .i64) charset0 o0]=qvN n charset0:=by
 kernel_rfl
theorem qkY:qe G Tryz.prog 133 s_z133:=by
 refine sQ (E:=qHc) (c:=qHd) rfl (fun w S hg=>qd) Tryz.func133 ?_
 intro avs r h
 unfold s_z133 at h
 split at h <;> cases h
 obtain ⟨n,hn⟩:=qBk _
 exact ⟨n,_,(qHe n _ _).trans hn,.inl rfl⟩
end
end Go.Av
