import Derived.Test.YtcbimkaeoojceaaGreatDoorPjEvF
import Derived.Test.YtcbimkaeoojceaaGreatDoorPjU
import Derived.Test.YtcbimkaeoojceaaGreatDoorProg
import Derived.KernelRfl
namespace Go.Av
set_option linter.unusedSimpArgs false
set_option linter.unusedVariables false
noncomputable section
open Go.Proofs
set_option maxRecDepth 100000
def E_z59:EnvP:=eQ [(82,s_z82)] 22 (some [4]) (fun x=>if x=3 then some [0,1,5,6] else none) (fun x=>if x=0 then some [5] else if x=1 then some [0,1,5,6] else none) nP
def C_z59:Code:=cO Tryz.f59
def R_z59:Array ResultVar:=Tryz.f59.results
noncomputable def qnp (K:Ex→Fr→OA):=fun n5=>K (.exit 0) (frOf [(5,dc n5)])
def qrO (n:Nat):Ex→Fr→OA:=qw 0 (E_z59.cutb 0) (kSeq (evCP E_z59 (evLP E_z59 n) (sub C_z59 [1,1,1])) (kFnP E_z59 R_z59))
def qyn (s0:LU) (kinds1:Int) (n5:Int) (i6:Int):Fr:=frOf [(0,da s0),(1,dc kinds1),(5,dc n5),(6,dc i6)]
theorem qDy (K:Ex→Fr→OA):∀ (n:Nat) (s0:LU) (kinds1:Int) (n5:Int) (i6:Int),evLP E_z59 n (sub C_z59 [1,1,0,1,0,0]) K (qyn s0 kinds1 n5 i6)=qlJ (qnp K) n s0 kinds1 n5 i6:=by
 intro n;induction n with
 | zero=>intros; rfl
 | succ n IH =>
 intro s0 kinds1 n5 i6;have ih:(fun s0 kinds1 n5 i6=>evLP E_z59 n (sub C_z59 [1,1,0,1,0,0]) K (qyn s0 kinds1 n5 i6))=qlJ (qnp K) n:=by
  funext s0 kinds1 n5 i6;exact IH s0 kinds1 n5 i6
 show _=qgg (qnp K) (qlJ (qnp K) n) n s0 kinds1 n5 i6;rw [← ih];kernel_rfl
theorem quH (n:Nat) (n5:Int):(qrO n) (.exit 0) (frOf [(5,dc n5)])=qiU n n5:=by
 kernel_rfl
theorem qQY (n:Nat) (s0:LU) (o0:Lab) (kinds1:Int) (o1:Lab):evFnP E_z59 n C_z59 R_z59 [db s0 o0,de kinds1 o1]=qEX n s0 kinds1:=by
 unfold qEX;rw [show qlJ (qiU n) n=(fun s0 kinds1 n5 i6=>evLP E_z59 n (sub C_z59 [1,1,0,1,0,0]) (qrO n) (qyn s0 kinds1 n5 i6)) from by
  funext s0 kinds1 n5 i6;refine Eq.trans ?_ (qDy (qrO n) n s0 kinds1 n5 i6).symm;rw [show (qnp (qrO n))=(qiU n) from by
   funext n5;exact quH n n5]
  all_goals kernel_rfl]
 kernel_rfl
theorem qrP:qf G Tryz.prog 59 s_z59:=by
 refine sQ (E:=E_z59) (c:=C_z59) rfl (fun w S hg=>(qa (qrN w S hg) qd)) Tryz.func59 ?_;intro avs r h;unfold s_z59 at h;split at h
 ·obtain ⟨hp,rfl⟩:=yj h;obtain ⟨n,hn⟩:=qKu _ _ hp;exact ⟨n,_,(qQY n _ _ _ _).trans hn,.inl rfl⟩
 ·cases h
def E_z35:EnvP:=eQ [(59,s_z59)] 18 (some [2]) nC nC nP
def C_z35:Code:=cO Tryz.f35
def R_z35:Array ResultVar:=Tryz.f35.results
theorem qQZ (n:Nat) (name0:LU) (o0:Lab):evFnP E_z35 n C_z35 R_z35 [db name0 o0]=qKd n name0:=by
 kernel_rfl
theorem qDz:qf G Tryz.prog 35 s_z35:=by
 refine sQ (E:=E_z35) (c:=C_z35) rfl (fun w S hg=>(qa (qrP w S hg) qd)) Tryz.func35 ?_;intro avs r h;unfold s_z35 at h;split at h
 ·obtain ⟨hp,rfl⟩:=yj h;obtain ⟨n,hn⟩:=qLd _ hp;exact ⟨n,_,(qQZ n _ _).trans hn,.inl rfl⟩
 ·cases h
def E_z22:EnvP:=eQ [(12,s_z12),(35,s_z35)] 23 (some [4]) (fun x=>if x=6 then some [1,5] else none) (fun x=>if x=0 then some [] else if x=1 then some [1,5] else none) nP
def C_z22:Code:=cO Tryz.f22
def R_z22:Array ResultVar:=Tryz.f22.results
noncomputable def qrQ (K:Ex→Fr→OA):=fun s4=>K .ret (frOf [(4,dc s4)])
def qrR (n:Nat):Ex→Fr→OA:=qw 0 (E_z22.cutb 0) (kSeq (evCP E_z22 (evLP E_z22 n) (sub C_z22 [1,1,1,1])) (kFnP E_z22 R_z22))
def qyo (t1:LI) (i5:Int):Fr:=frOf [(1,(.dat (.sl (.int .i32)) t1 none)),(5,dc i5)]
theorem qDA (K:Ex→Fr→OA):∀ (n:Nat) (t1:LI) (i5:Int),evLP E_z22 n (sub C_z22 [1,1,1,0,1,0,0]) K (qyo t1 i5)=qlK (qrQ K) (K (.exit 0) (frOf [])) n t1 i5:=by
 intro n;induction n with
 | zero=>intros; rfl
 | succ n IH =>
 intro t1 i5;have ih:(fun t1 i5=>evLP E_z22 n (sub C_z22 [1,1,1,0,1,0,0]) K (qyo t1 i5))=qlK (qrQ K) (K (.exit 0) (frOf [])) n:=by
  funext t1 i5;exact IH t1 i5
 show _=qgh (qrQ K) (K (.exit 0) (frOf [])) (qlK (qrQ K) (K (.exit 0) (frOf [])) n) n t1 i5;rw [← ih];kernel_rfl
theorem quI (n:Nat)  : (qrR n) (.exit 0) (frOf [])=qiV n  := by
 kernel_rfl
theorem qRa (n:Nat) (name0:LU) (o0:Lab) (t1:LI) (o1:Lab):evFnP E_z22 n C_z22 R_z22 [db name0 o0,.dat (.sl (.int .i32)) t1 o1]=qEY n name0 t1:=by
 unfold qEY;rw [show qlK qgM (qiV n) n=(fun t1 i5=>evLP E_z22 n (sub C_z22 [1,1,1,0,1,0,0]) (qrR n) (qyo t1 i5)) from by
  funext t1 i5;refine Eq.trans ?_ (qDA (qrR n) n t1 i5).symm;rw [show ((qrR n) (.exit 0) (frOf []))=(qiV n) from by
   exact quI n ]
  all_goals kernel_rfl]
 kernel_rfl
theorem qrS:qf G Tryz.prog 22 s_z22:=by
 refine sQ (E:=E_z22) (c:=C_z22) rfl (fun w S hg=>(qa (qDx w S hg) (qa (qDz w S hg) qd))) Tryz.func22 ?_;intro avs r h;unfold s_z22 at h;split at h
 ·obtain ⟨hp,rfl⟩:=yj h;obtain ⟨n,hn⟩:=qLf _ _ hp;exact ⟨n,_,(qRa n _ _ _ _).trans hn,.inl rfl⟩
 ·cases h
def E_z36:EnvP:=eQ [] 22 (some [2]) (fun x=>if x=2 then some [0,3] else none) (fun x=>if x=0 then some [] else if x=1 then some [0,3] else none) nP
def C_z36:Code:=cO Tryz.f36
def R_z36:Array ResultVar:=Tryz.f36.results
noncomputable def qrT (K:Ex→Fr→OA):=fun s2=>K .ret (frOf [(2,dg s2)])
def qrU (n:Nat):Ex→Fr→OA:=qw 0 (E_z36.cutb 0) (kSeq (evCP E_z36 (evLP E_z36 n) (sub C_z36 [1,1])) (kFnP E_z36 R_z36))
def qyp (t0:LI) (i3:Int):Fr:=frOf [(0,(.dat (.sl (.int .i32)) t0 none)),(3,dc i3)]
theorem qDB (K:Ex→Fr→OA):∀ (n:Nat) (t0:LI) (i3:Int),evLP E_z36 n (sub C_z36 [1,0,1,0,0]) K (qyp t0 i3)=qnP (qrT K) (K (.exit 0) (frOf [])) n t0 i3:=by
 intro n;induction n with
 | zero=>intros; rfl
 | succ n IH =>
 intro t0 i3;have ih:(fun t0 i3=>evLP E_z36 n (sub C_z36 [1,0,1,0,0]) K (qyp t0 i3))=qnP (qrT K) (K (.exit 0) (frOf [])) n:=by
  funext t0 i3;exact IH t0 i3
 show _=qgi (qrT K) (K (.exit 0) (frOf [])) (qnP (qrT K) (K (.exit 0) (frOf [])) n) n t0 i3;rw [← ih];kernel_rfl
theorem quJ (n:Nat)  : (qrU n) (.exit 0) (frOf [])=qlL n  := by
 kernel_rfl
theorem qRb (n:Nat) (t0:LI) (o0:Lab):evFnP E_z36 n C_z36 R_z36 [.dat (.sl (.int .i32)) t0 o0]=qEZ n t0:=by
 unfold qEZ;rw [show qnP qnO (qlL n) n=(fun t0 i3=>evLP E_z36 n (sub C_z36 [1,0,1,0,0]) (qrU n) (qyp t0 i3)) from by
  funext t0 i3;refine Eq.trans ?_ (qDB (qrU n) n t0 i3).symm;rw [show ((qrU n) (.exit 0) (frOf []))=(qlL n) from by
   exact quJ n ]
  all_goals kernel_rfl]
 kernel_rfl
theorem qDC:qf G Tryz.prog 36 s_z36:=by
 refine sQ (E:=E_z36) (c:=C_z36) rfl (fun w S hg=>qd) Tryz.func36 ?_;intro avs r h;unfold s_z36 at h;split at h
 ·obtain ⟨hp,rfl⟩:=yj h;obtain ⟨n,hn⟩:=qLe _ hp;exact ⟨n,_,(qRb n _ _).trans hn,.inl rfl⟩
 ·cases h
def E_z60:EnvP:=eQ [] 37 (some [2]) (fun x=>if x=3 then some [0,3,4] else none) (fun x=>if x=0 then some [3] else if x=1 then some [0,3,4] else none) nP
def C_z60:Code:=cO Tryz.f60
def R_z60:Array ResultVar:=Tryz.f60.results
noncomputable def qnq (K:Ex→Fr→OA):=fun out3=>K (.exit 0) (frOf [(3,(db out3 (some (3,5))))])
def qrV (n:Nat):Ex→Fr→OA:=qw 0 (E_z60.cutb 0) (kSeq (evCP E_z60 (evLP E_z60 n) (sub C_z60 [1,1,1])) (kFnP E_z60 R_z60))
def qyq (s0:LU) (out3:LU) (i4:Int):Fr:=frOf [(0,da s0),(3,(db out3 (some (3,5)))),(4,dc i4)]
theorem qDD (K:Ex→Fr→OA):∀ (n:Nat) (s0:LU) (out3:LU) (i4:Int),evLP E_z60 n (sub C_z60 [1,1,0,1,0,0]) K (qyq s0 out3 i4)=qpK (qnq K) n s0 out3 i4:=by
 intro n;induction n with
 | zero=>intros; rfl
 | succ n IH =>
 intro s0 out3 i4;have ih:(fun s0 out3 i4=>evLP E_z60 n (sub C_z60 [1,1,0,1,0,0]) K (qyq s0 out3 i4))=qpK (qnq K) n:=by
  funext s0 out3 i4;exact IH s0 out3 i4
 show _=qgj (qnq K) (qpK (qnq K) n) n s0 out3 i4;rw [← ih];kernel_rfl
theorem quK (n:Nat) (out3:LU):(qrV n) (.exit 0) (frOf [(3,(db out3 (some (3,5))))])=qep n out3:=by
 kernel_rfl
theorem qRc (n:Nat) (s0:LU) (o0:Lab):evFnP E_z60 n C_z60 R_z60 [db s0 o0]=qFa n s0:=by
 unfold qFa;rw [show qpK (qep n) n=(fun s0 out3 i4=>evLP E_z60 n (sub C_z60 [1,1,0,1,0,0]) (qrV n) (qyq s0 out3 i4)) from by
  funext s0 out3 i4;refine Eq.trans ?_ (qDD (qrV n) n s0 out3 i4).symm;rw [show (qnq (qrV n))=(qep n) from by
   funext out3;exact quK n out3]
  all_goals kernel_rfl]
 kernel_rfl
theorem qDE:qf G Tryz.prog 60 s_z60:=by
 refine sQ (E:=E_z60) (c:=C_z60) rfl (fun w S hg=>qd) Tryz.func60 ?_;intro avs r h;unfold s_z60 at h;split at h
 ·obtain ⟨hp,rfl⟩:=yj h;obtain ⟨n,hn⟩:=qKY _ hp;exact ⟨n,_,(qRc n _ _).trans hn,.inl rfl⟩
 ·cases h
def E_z37:EnvP:=eQ [(59,s_z59),(60,s_z60)] 16 (some [1000002]) nC nC nP
def C_z37:Code:=cO Tryz.f37
def R_z37:Array ResultVar:=Tryz.f37.results
theorem qRd (n:Nat) (s0:LU) (o0:Lab):evFnP E_z37 n C_z37 R_z37 [db s0 o0]=qKe n s0:=by
 kernel_rfl
theorem qDF:qf G Tryz.prog 37 s_z37:=by
 refine sQ (E:=E_z37) (c:=C_z37) rfl (fun w S hg=>(qa (qrP w S hg) (qa (qDE w S hg) qd))) Tryz.func37 ?_;intro avs r h;unfold s_z37 at h;split at h
 ·obtain ⟨hp,rfl⟩:=yj h;obtain ⟨n,hn⟩:=qKZ _ hp;exact ⟨n,_,(qRd n _ _).trans hn,.inl rfl⟩
 ·cases h
def E_z23:EnvP:=eQ [(22,s_z22),(36,s_z36),(37,s_z37)] 42 (some [4]) (fun x=>if x=5 then some [0,1,5,6] else none) (fun x=>if x=0 then some [0,5] else if x=1 then some [0,1,5,6] else none) nP
def C_z23:Code:=cO Tryz.f23
def R_z23:Array ResultVar:=Tryz.f23.results
noncomputable def qnr (K:Ex→Fr→OA):=fun name0 b5=>K (.exit 0) (frOf [(0,da name0),(5,(db b5 (some (5,5))))])
def qrW (n:Nat):Ex→Fr→OA:=qw 0 (E_z23.cutb 0) (kSeq (evCP E_z23 (evLP E_z23 n) (sub C_z23 [1,1,1,1])) (kFnP E_z23 R_z23))
def qyr (name0:LU) (t1:LI) (b5:LU) (i6:Int):Fr:=frOf [(0,da name0),(1,(.dat (.sl (.int .i32)) t1 none)),(5,(db b5 (some (5,5)))),(6,dc i6)]
theorem qDG (K:Ex→Fr→OA):∀ (n:Nat) (name0:LU) (t1:LI) (b5:LU) (i6:Int),evLP E_z23 n (sub C_z23 [1,1,1,0,1,0,0]) K (qyr name0 t1 b5 i6)=qpL (qnr K) n name0 t1 b5 i6:=by
 intro n;induction n with
 | zero=>intros; rfl
 | succ n IH =>
 intro name0 t1 b5 i6;have ih:(fun name0 t1 b5 i6=>evLP E_z23 n (sub C_z23 [1,1,1,0,1,0,0]) K (qyr name0 t1 b5 i6))=qpL (qnr K) n:=by
  funext name0 t1 b5 i6;exact IH name0 t1 b5 i6
 show _=qgk (qnr K) (qpL (qnr K) n) n name0 t1 b5 i6;rw [← ih];kernel_rfl
theorem quL (n:Nat) (name0:LU) (b5:LU):(qrW n) (.exit 0) (frOf [(0,da name0),(5,(db b5 (some (5,5))))])=qeq n name0 b5:=by
 kernel_rfl
theorem qRe (n:Nat) (name0:LU) (o0:Lab) (t1:LI) (o1:Lab):evFnP E_z23 n C_z23 R_z23 [db name0 o0,.dat (.sl (.int .i32)) t1 o1]=qFb n name0 t1:=by
 unfold qFb;rw [show qpL (qeq n) n=(fun name0 t1 b5 i6=>evLP E_z23 n (sub C_z23 [1,1,1,0,1,0,0]) (qrW n) (qyr name0 t1 b5 i6)) from by
  funext name0 t1 b5 i6;refine Eq.trans ?_ (qDG (qrW n) n name0 t1 b5 i6).symm;rw [show (qnr (qrW n))=(qeq n) from by
   funext name0 b5;exact quL n name0 b5]
  all_goals kernel_rfl]
 kernel_rfl
theorem qDH:qf G Tryz.prog 23 s_z23:=by
 refine sQ (E:=E_z23) (c:=C_z23) rfl (fun w S hg=>(qa (qrS w S hg) (qa (qDC w S hg) (qa (qDF w S hg) qd)))) Tryz.func23 ?_;intro avs r h;unfold s_z23 at h;split at h
 ·obtain ⟨hp,rfl⟩:=yj h;obtain ⟨n,hn⟩:=qLl _ _ hp;exact ⟨n,_,(qRe n _ _ _ _).trans hn,.inl rfl⟩
 ·cases h
def qNY:EnvP:=eQ [] 5 (some [2]) nC nC nP
def qNZ:Code:=cO Tryz.f104
def qRf:Array ResultVar:=Tryz.f104.results
theorem qOa (n:Nat) (x0:UInt8) (o0:Lab):evFnP qNY n qNZ qRf [dp x0 o0]=qGU n x0:=by
 kernel_rfl
theorem qys:qf G Tryz.prog 104 s_z104:=by
 refine sQ (E:=qNY) (c:=qNZ) rfl (fun w S hg=>qd) Tryz.func104 ?_;intro avs r h;unfold s_z104 at h;split at h <;> cases h
 obtain ⟨n,hn⟩:=qFy _;exact ⟨n,_,(qOa n _ _).trans hn,.inl rfl⟩
def E_z84:EnvP:=eQ [(104,s_z104)] 20 (some [2,3]) (fun x=>if x=2 then some [0,4] else none) (fun x=>if x=0 then some [] else if x=1 then some [0,4] else none) nP
def C_z84:Code:=cO Tryz.f84
def R_z84:Array ResultVar:=Tryz.f84.results
noncomputable def qrX (K:Ex→Fr→OA):=fun s2 s3=>K .ret (frOf [(2,dn s2),(3,dg s3)])
def qrY (n:Nat):Ex→Fr→OA:=qw 0 (E_z84.cutb 0) (kSeq (evCP E_z84 (evLP E_z84 n) (sub C_z84 [1,1])) (kFnP E_z84 R_z84))
def qyt (c0:Int) (n4:Int):Fr:=frOf [(0,di c0),(4,dc n4)]
theorem qDI (K:Ex→Fr→OA):∀ (n:Nat) (c0:Int) (n4:Int),evLP E_z84 n (sub C_z84 [1,0,1,0,0]) K (qyt c0 n4)=qnR (qrX K) (K (.exit 0) (frOf [])) n c0 n4:=by
 intro n;induction n with
 | zero=>intros; rfl
 | succ n IH =>
 intro c0 n4;have ih:(fun c0 n4=>evLP E_z84 n (sub C_z84 [1,0,1,0,0]) K (qyt c0 n4))=qnR (qrX K) (K (.exit 0) (frOf [])) n:=by
  funext c0 n4;exact IH c0 n4
 show _=qlM (qrX K) (K (.exit 0) (frOf [])) (qnR (qrX K) (K (.exit 0) (frOf [])) n) n c0 n4;rw [← ih];kernel_rfl
theorem quM (n:Nat)  : (qrY n) (.exit 0) (frOf [])=qlN n  := by
 kernel_rfl
theorem qRg (n:Nat) (c0:Int) (o0:Lab):evFnP E_z84 n C_z84 R_z84 [dm c0 o0]=qFc n c0:=by
 unfold qFc;rw [show qnR qta (qlN n) n=(fun c0 n4=>evLP E_z84 n (sub C_z84 [1,0,1,0,0]) (qrY n) (qyt c0 n4)) from by
  funext c0 n4;refine Eq.trans ?_ (qDI (qrY n) n c0 n4).symm;rw [show ((qrY n) (.exit 0) (frOf []))=(qlN n) from by
   exact quM n ]
  all_goals kernel_rfl]
 kernel_rfl
theorem qrZ:qf G Tryz.prog 84 s_z84:=by
 refine sQ (E:=E_z84) (c:=C_z84) rfl (fun w S hg=>(qa (qys w S hg) qd)) Tryz.func84 ?_;intro avs r h;unfold s_z84 at h;split at h <;> cases h
 obtain ⟨n,hn⟩:=qKI _;exact ⟨n,_,(qRg n _ _).trans hn,.inl rfl⟩
def qOb:EnvP:=eQ [] 22 (some [2]) nC (fun x=>if x=0 then some [0] else none) nP
def qOc:Code:=cO Tryz.f105
def qRh:Array ResultVar:=Tryz.f105.results
theorem qOd (n:Nat) (x0:UInt8) (o0:Lab):evFnP qOb n qOc qRh [dp x0 o0]=qAi n x0:=by
 kernel_rfl
theorem qyu:qf G Tryz.prog 105 s_z105:=by
 refine sQ (E:=qOb) (c:=qOc) rfl (fun w S hg=>qd) Tryz.func105 ?_;intro avs r h;unfold s_z105 at h;split at h <;> cases h
 obtain ⟨n,hn⟩:=qFw _;exact ⟨n,_,(qOd n _ _).trans hn,.inl rfl⟩
def E_z85:EnvP:=eQ [(105,s_z105)] 20 (some [2,3]) (fun x=>if x=2 then some [0,4] else none) (fun x=>if x=0 then some [] else if x=1 then some [0,4] else none) nP
def C_z85:Code:=cO Tryz.f85
def R_z85:Array ResultVar:=Tryz.f85.results
noncomputable def qsa (K:Ex→Fr→OA):=fun s2 s3=>K .ret (frOf [(2,dn s2),(3,dg s3)])
def qsb (n:Nat):Ex→Fr→OA:=qw 0 (E_z85.cutb 0) (kSeq (evCP E_z85 (evLP E_z85 n) (sub C_z85 [1,1])) (kFnP E_z85 R_z85))
def qyv (c0:Int) (n4:Int):Fr:=frOf [(0,di c0),(4,dc n4)]
theorem qDJ (K:Ex→Fr→OA):∀ (n:Nat) (c0:Int) (n4:Int),evLP E_z85 n (sub C_z85 [1,0,1,0,0]) K (qyv c0 n4)=qpM (qsa K) (K (.exit 0) (frOf [])) n c0 n4:=by
 intro n;induction n with
 | zero=>intros; rfl
 | succ n IH =>
 intro c0 n4;have ih:(fun c0 n4=>evLP E_z85 n (sub C_z85 [1,0,1,0,0]) K (qyv c0 n4))=qpM (qsa K) (K (.exit 0) (frOf [])) n:=by
  funext c0 n4;exact IH c0 n4
 show _=qlO (qsa K) (K (.exit 0) (frOf [])) (qpM (qsa K) (K (.exit 0) (frOf [])) n) n c0 n4;rw [← ih];kernel_rfl
theorem quN (n:Nat)  : (qsb n) (.exit 0) (frOf [])=qiW n  := by
 kernel_rfl
theorem qRi (n:Nat) (c0:Int) (o0:Lab):evFnP E_z85 n C_z85 R_z85 [dm c0 o0]=qFd n c0:=by
 unfold qFd;rw [show qpM qnS (qiW n) n=(fun c0 n4=>evLP E_z85 n (sub C_z85 [1,0,1,0,0]) (qsb n) (qyv c0 n4)) from by
  funext c0 n4;refine Eq.trans ?_ (qDJ (qsb n) n c0 n4).symm;rw [show ((qsb n) (.exit 0) (frOf []))=(qiW n) from by
   exact quN n ]
  all_goals kernel_rfl]
 kernel_rfl
theorem qsc:qf G Tryz.prog 85 s_z85:=by
 refine sQ (E:=E_z85) (c:=C_z85) rfl (fun w S hg=>(qa (qyu w S hg) qd)) Tryz.func85 ?_;intro avs r h;unfold s_z85 at h;split at h <;> cases h
 obtain ⟨n,hn⟩:=qKK _;exact ⟨n,_,(qRi n _ _).trans hn,.inl rfl⟩
def qOe:EnvP:=eQ [] 18 (some [2]) nC nC nP
def qOf:Code:=cO Tryz.f106
def qRj:Array ResultVar:=Tryz.f106.results
theorem qOg (n:Nat) (x0:UInt8) (o0:Lab):evFnP qOe n qOf qRj [dp x0 o0]=qAj n x0:=by
 kernel_rfl
theorem qyw:qf G Tryz.prog 106 s_z106:=by
 refine sQ (E:=qOe) (c:=qOf) rfl (fun w S hg=>qd) Tryz.func106 ?_;intro avs r h;unfold s_z106 at h;split at h <;> cases h
 obtain ⟨n,hn⟩:=qFx _;exact ⟨n,_,(qOg n _ _).trans hn,.inl rfl⟩
def E_z86:EnvP:=eQ [(106,s_z106)] 20 (some [2,3]) (fun x=>if x=2 then some [0,4] else none) (fun x=>if x=0 then some [] else if x=1 then some [0,4] else none) nP
def C_z86:Code:=cO Tryz.f86
def R_z86:Array ResultVar:=Tryz.f86.results
noncomputable def qsd (K:Ex→Fr→OA):=fun s2 s3=>K .ret (frOf [(2,dn s2),(3,dg s3)])
def qse (n:Nat):Ex→Fr→OA:=qw 0 (E_z86.cutb 0) (kSeq (evCP E_z86 (evLP E_z86 n) (sub C_z86 [1,1])) (kFnP E_z86 R_z86))
def qyx (c0:Int) (n4:Int):Fr:=frOf [(0,di c0),(4,dc n4)]
theorem qDK (K:Ex→Fr→OA):∀ (n:Nat) (c0:Int) (n4:Int),evLP E_z86 n (sub C_z86 [1,0,1,0,0]) K (qyx c0 n4)=qpN (qsd K) (K (.exit 0) (frOf [])) n c0 n4:=by
 intro n;induction n with
 | zero=>intros; rfl
 | succ n IH =>
 intro c0 n4;have ih:(fun c0 n4=>evLP E_z86 n (sub C_z86 [1,0,1,0,0]) K (qyx c0 n4))=qpN (qsd K) (K (.exit 0) (frOf [])) n:=by
  funext c0 n4;exact IH c0 n4
 show _=qlQ (qsd K) (K (.exit 0) (frOf [])) (qpN (qsd K) (K (.exit 0) (frOf [])) n) n c0 n4;rw [← ih];kernel_rfl
theorem quO (n:Nat)  : (qse n) (.exit 0) (frOf [])=qiY n  := by
 kernel_rfl
theorem qRk (n:Nat) (c0:Int) (o0:Lab):evFnP E_z86 n C_z86 R_z86 [dm c0 o0]=qFe n c0:=by
 unfold qFe;rw [show qpN qnT (qiY n) n=(fun c0 n4=>evLP E_z86 n (sub C_z86 [1,0,1,0,0]) (qse n) (qyx c0 n4)) from by
  funext c0 n4;refine Eq.trans ?_ (qDK (qse n) n c0 n4).symm;rw [show ((qse n) (.exit 0) (frOf []))=(qiY n) from by
   exact quO n ]
  all_goals kernel_rfl]
 kernel_rfl
theorem qsf:qf G Tryz.prog 86 s_z86:=by
 refine sQ (E:=E_z86) (c:=C_z86) rfl (fun w S hg=>(qa (qyw w S hg) qd)) Tryz.func86 ?_;intro avs r h;unfold s_z86 at h;split at h <;> cases h
 obtain ⟨n,hn⟩:=qKL _;exact ⟨n,_,(qRk n _ _).trans hn,.inl rfl⟩
end
end Go.Av
