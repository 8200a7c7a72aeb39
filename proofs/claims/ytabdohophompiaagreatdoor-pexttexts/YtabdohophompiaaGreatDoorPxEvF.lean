import Derived.Test.YtabdohophompiaaGreatDoorPxEvE
import Derived.Test.YtabdohophompiaaGreatDoorPxN
import Derived.Test.YtabdohophompiaaGreatDoorProg
import Derived.KernelRfl
namespace Go.Av
set_option linter.unusedSimpArgs false
noncomputable section
open Go.Proofs
set_option maxRecDepth 100000
set_option linter.unusedVariables false
def qGx:EnvP:=eQ [] 22 (some [2]) nC (fun x=>if x=0 then some [0] else none) nP
def qGy:Code:=cO Tryz.f118
def qIW:Array ResultVar:=Tryz.f118.results
theorem qGz (n:Nat) (x0:UInt8) (o0:Lab):evFnP qGx n qGy qIW [dn x0 o0]=qva n x0:=by
 kernel_rfl
theorem qtm:qe G Tryz.prog 118 s_z118:=by
 refine sQ (E:=qGx) (c:=qGy) rfl (fun w S hg=>qc) Tryz.func118 ?_;intro avs r h;unfold s_z118 at h;split at h <;> cases h
 obtain ⟨n,hn⟩:=qzs _;exact ⟨n,_,(qGz n _ _).trans hn,.inl rfl⟩
def E_z84:EnvP:=eQ [(118,s_z118)] 20 (some [2,3]) (fun x=>if x=2 then some [0,4] else none) (fun x=>if x=0 then some [] else if x=1 then some [0,4] else none) nP
def C_z84:Code:=cO Tryz.f84
def R_z84:Array ResultVar:=Tryz.f84.results
noncomputable def qog (K:Ex→Fr→Option AV):=fun s2 s3=>K .ret (frOf [(2,dm s2),(3,dg s3)])
def qoh (n:Nat):Ex→Fr→Option AV:=qp 0 (E_z84.cutb 0) (kSeq (evCP E_z84 (evLP E_z84 n) (sub C_z84 [1,1])) (kFnP E_z84 R_z84))
def qtn (c0:Int) (n4:Int):Fr:=frOf [(0,(di c0 none)),(4,dc n4)]
theorem qxz (K:Ex→Fr→Option AV):∀ (n:Nat) (c0:Int) (n4:Int),evLP E_z84 n (sub C_z84 [1,0,1,0,0]) K (qtn c0 n4)=qml (qog K) (K (.exit 0) (frOf [])) n c0 n4:=by
 intro n;induction n with
 | zero=>intros; rfl
 | succ n IH =>
 intro c0 n4;have ih:(fun c0 n4=>evLP E_z84 n (sub C_z84 [1,0,1,0,0]) K (qtn c0 n4))=qml (qog K) (K (.exit 0) (frOf [])) n:=by
  funext c0 n4;exact IH c0 n4
 show _=qje (qog K) (K (.exit 0) (frOf [])) (qml (qog K) (K (.exit 0) (frOf [])) n) n c0 n4;rw [← ih];kernel_rfl
theorem qqu (n:Nat)  : (qoh n) (.exit 0) (frOf [])=qgV n  := by
 kernel_rfl
theorem qIX (n:Nat) (c0:Int) (o0:Lab):evFnP E_z84 n C_z84 R_z84 [di c0 o0]=qyM n c0:=by
 unfold qyM;rw [show qml qkM (qgV n) n=(fun c0 n4=>evLP E_z84 n (sub C_z84 [1,0,1,0,0]) (qoh n) (qtn c0 n4)) from by
  funext c0 n4;refine Eq.trans ?_ (qxz (qoh n) n c0 n4).symm;rw [show ((qoh n) (.exit 0) (frOf []))=(qgV n) from by
   exact qqu n ]
  all_goals kernel_rfl]
 kernel_rfl
theorem qoi:qe G Tryz.prog 84 s_z84:=by
 refine sQ (E:=E_z84) (c:=C_z84) rfl (fun w S hg=>(qa (qtm w S hg) qc)) Tryz.func84 ?_;intro avs r h;unfold s_z84 at h;split at h <;> cases h
 obtain ⟨n,hn⟩:=qDM _;exact ⟨n,_,(qIX n _ _).trans hn,.inl rfl⟩
def qGA:EnvP:=eQ [] 18 (some [2]) nC nC nP
def qGB:Code:=cO Tryz.f119
def qIY:Array ResultVar:=Tryz.f119.results
theorem qGC (n:Nat) (x0:UInt8) (o0:Lab):evFnP qGA n qGB qIY [dn x0 o0]=qvb n x0:=by
 kernel_rfl
theorem qto:qe G Tryz.prog 119 s_z119:=by
 refine sQ (E:=qGA) (c:=qGB) rfl (fun w S hg=>qc) Tryz.func119 ?_;intro avs r h;unfold s_z119 at h;split at h <;> cases h
 obtain ⟨n,hn⟩:=qzt _;exact ⟨n,_,(qGC n _ _).trans hn,.inl rfl⟩
def E_z85:EnvP:=eQ [(119,s_z119)] 20 (some [2,3]) (fun x=>if x=2 then some [0,4] else none) (fun x=>if x=0 then some [] else if x=1 then some [0,4] else none) nP
def C_z85:Code:=cO Tryz.f85
def R_z85:Array ResultVar:=Tryz.f85.results
noncomputable def qoj (K:Ex→Fr→Option AV):=fun s2 s3=>K .ret (frOf [(2,dm s2),(3,dg s3)])
def qok (n:Nat):Ex→Fr→Option AV:=qp 0 (E_z85.cutb 0) (kSeq (evCP E_z85 (evLP E_z85 n) (sub C_z85 [1,1])) (kFnP E_z85 R_z85))
def qtp (c0:Int) (n4:Int):Fr:=frOf [(0,(di c0 none)),(4,dc n4)]
theorem qxA (K:Ex→Fr→Option AV):∀ (n:Nat) (c0:Int) (n4:Int),evLP E_z85 n (sub C_z85 [1,0,1,0,0]) K (qtp c0 n4)=qmm (qoj K) (K (.exit 0) (frOf [])) n c0 n4:=by
 intro n;induction n with
 | zero=>intros; rfl
 | succ n IH =>
 intro c0 n4;have ih:(fun c0 n4=>evLP E_z85 n (sub C_z85 [1,0,1,0,0]) K (qtp c0 n4))=qmm (qoj K) (K (.exit 0) (frOf [])) n:=by
  funext c0 n4;exact IH c0 n4
 show _=qjg (qoj K) (K (.exit 0) (frOf [])) (qmm (qoj K) (K (.exit 0) (frOf [])) n) n c0 n4;rw [← ih];kernel_rfl
theorem qqv (n:Nat)  : (qok n) (.exit 0) (frOf [])=qgX n  := by
 kernel_rfl
theorem qIZ (n:Nat) (c0:Int) (o0:Lab):evFnP E_z85 n C_z85 R_z85 [di c0 o0]=qyN n c0:=by
 unfold qyN;rw [show qmm qkN (qgX n) n=(fun c0 n4=>evLP E_z85 n (sub C_z85 [1,0,1,0,0]) (qok n) (qtp c0 n4)) from by
  funext c0 n4;refine Eq.trans ?_ (qxA (qok n) n c0 n4).symm;rw [show ((qok n) (.exit 0) (frOf []))=(qgX n) from by
   exact qqv n ]
  all_goals kernel_rfl]
 kernel_rfl
theorem qol:qe G Tryz.prog 85 s_z85:=by
 refine sQ (E:=E_z85) (c:=C_z85) rfl (fun w S hg=>(qa (qto w S hg) qc)) Tryz.func85 ?_;intro avs r h;unfold s_z85 at h;split at h <;> cases h
 obtain ⟨n,hn⟩:=qDN _;exact ⟨n,_,(qIZ n _ _).trans hn,.inl rfl⟩
def qGD:EnvP:=eQ [] 9 (some [2]) nC nC nP
def qGE:Code:=cO Tryz.f124
def qJa:Array ResultVar:=Tryz.f124.results
theorem qGF (n:Nat) (c0:Int) (o0:Lab):evFnP qGD n qGE qJa [di c0 o0]=qvc n c0:=by
 kernel_rfl
theorem qtq:qe G Tryz.prog 124 s_z124:=by
 refine sQ (E:=qGD) (c:=qGE) rfl (fun w S hg=>qc) Tryz.func124 ?_;intro avs r h;unfold s_z124 at h;split at h <;> cases h
 obtain ⟨n,hn⟩:=qzx _;exact ⟨n,_,(qGF n _ _).trans hn,.inl rfl⟩
def E_z97:EnvP:=eQ [(124,s_z124)] 14 (some [2]) nC nC nP
def C_z97:Code:=cO Tryz.f97
def R_z97:Array ResultVar:=Tryz.f97.results
theorem qJb (n:Nat) (c0:Int) (o0:Lab):evFnP E_z97 n C_z97 R_z97 [di c0 o0]=qDa n c0:=by
 kernel_rfl
theorem qiL:qe G Tryz.prog 97 s_z97:=by
 refine sQ (E:=E_z97) (c:=C_z97) rfl (fun w S hg=>(qa (qtq w S hg) qc)) Tryz.func97 ?_;intro avs r h;unfold s_z97 at h;split at h <;> cases h
 obtain ⟨n,hn⟩:=qDD _;exact ⟨n,_,(qJb n _ _).trans hn,.inl rfl⟩
def E_z82:EnvP:=eQ [(83,s_z83),(84,s_z84),(85,s_z85),(97,s_z97)] 41 (some [4]) nC (fun x=>if x=0 then some [5] else none) nP
def C_z82:Code:=cO Tryz.f82
def R_z82:Array ResultVar:=Tryz.f82.results
theorem qJc (n:Nat) (charset0:Int) (o0:Lab) (c1:Int) (o1:Lab):evFnP E_z82 n C_z82 R_z82 [de charset0 o0,di c1 o1]=qDb n charset0 c1:=by
 kernel_rfl
theorem qom:qe G Tryz.prog 82 s_z82:=by
 refine sQ (E:=E_z82) (c:=C_z82) rfl (fun w S hg=>(qa (qof w S hg) (qa (qoi w S hg) (qa (qol w S hg) (qa (qiL w S hg) qc))))) Tryz.func82 ?_;intro avs r h;unfold s_z82 at h;split at h <;> cases h
 obtain ⟨n,hn⟩:=qDP _ _;exact ⟨n,_,(qJc n _ _ _ _).trans hn,.inl rfl⟩
def E_z81:EnvP:=eQ [(82,s_z82)] 20 (some [4]) (fun x=>if x=2 then some [0,1,5] else none) (fun x=>if x=0 then some [] else if x=1 then some [0,1,5] else none) nP
def C_z81:Code:=cO Tryz.f81
def R_z81:Array ResultVar:=Tryz.f81.results
noncomputable def qon (K:Ex→Fr→Option AV):=fun s4=>K .ret (frOf [(4,dc s4)])
def qoo (n:Nat):Ex→Fr→Option AV:=qp 0 (E_z81.cutb 0) (kSeq (evCP E_z81 (evLP E_z81 n) (sub C_z81 [1,1])) (kFnP E_z81 R_z81))
def qtr (charset0:Int) (t1:List Int) (i5:Int):Fr:=frOf [(0,dc charset0),(1,(.dat (.sl (.int .i32)) t1 none)),(5,dc i5)]
theorem qxB (K:Ex→Fr→Option AV):∀ (n:Nat) (charset0:Int) (t1:List Int) (i5:Int),evLP E_z81 n (sub C_z81 [1,0,1,0,0]) K (qtr charset0 t1 i5)=qmo (qon K) (K (.exit 0) (frOf [])) n charset0 t1 i5:=by
 intro n;induction n with
 | zero=>intros; rfl
 | succ n IH =>
 intro charset0 t1 i5;have ih:(fun charset0 t1 i5=>evLP E_z81 n (sub C_z81 [1,0,1,0,0]) K (qtr charset0 t1 i5))=qmo (qon K) (K (.exit 0) (frOf [])) n:=by
  funext charset0 t1 i5;exact IH charset0 t1 i5
 show _=qeK (qon K) (K (.exit 0) (frOf [])) (qmo (qon K) (K (.exit 0) (frOf [])) n) n charset0 t1 i5;rw [← ih];kernel_rfl
theorem qqw (n:Nat)  : (qoo n) (.exit 0) (frOf [])=qgY n  := by
 kernel_rfl
theorem qJd (n:Nat) (charset0:Int) (o0:Lab) (t1:List Int) (o1:Lab):evFnP E_z81 n C_z81 R_z81 [de charset0 o0,.dat (.sl (.int .i32)) t1 o1]=qyO n charset0 t1:=by
 unfold qyO;rw [show qmo qkO (qgY n) n=(fun charset0 t1 i5=>evLP E_z81 n (sub C_z81 [1,0,1,0,0]) (qoo n) (qtr charset0 t1 i5)) from by
  funext charset0 t1 i5;refine Eq.trans ?_ (qxB (qoo n) n charset0 t1 i5).symm;rw [show ((qoo n) (.exit 0) (frOf []))=(qgY n) from by
   exact qqw n ]
  all_goals kernel_rfl]
 kernel_rfl
theorem qxC:qe G Tryz.prog 81 s_z81:=by
 refine sQ (E:=E_z81) (c:=C_z81) rfl (fun w S hg=>(qa (qom w S hg) qc)) Tryz.func81 ?_;intro avs r h;unfold s_z81 at h;split at h
 ·obtain ⟨hp,rfl⟩:=yj h;obtain ⟨n,hn⟩:=qEb _ _ hp;exact ⟨n,_,(qJd n _ _ _ _).trans hn,.inl rfl⟩
 ·cases h
def E_z46:EnvP:=eQ [(81,s_z81)] 17 (some [4]) nC nC nP
def C_z46:Code:=cO Tryz.f46
def R_z46:Array ResultVar:=Tryz.f46.results
theorem qJe (n:Nat) (charset0:Int) (o0:Lab) (t1:List Int) (o1:Lab):evFnP E_z46 n C_z46 R_z46 [de charset0 o0,.dat (.sl (.int .i32)) t1 o1]=qDc n charset0 t1:=by
 kernel_rfl
theorem qxD:qe G Tryz.prog 46 s_z46:=by
 refine sQ (E:=E_z46) (c:=C_z46) rfl (fun w S hg=>(qa (qxC w S hg) qc)) Tryz.func46 ?_;intro avs r h;unfold s_z46 at h;split at h
 ·obtain ⟨hp,rfl⟩:=yj h;obtain ⟨n,hn⟩:=qEc _ _ hp;exact ⟨n,_,(qJe n _ _ _ _).trans hn,.inl rfl⟩
 ·cases h
def E_z24:EnvP:=eQ [(46,s_z46)] 13 (some [2,3]) (fun x=>if x=2 then some [0,4] else none) (fun x=>if x=0 then some [] else if x=1 then some [0,4] else none) nP
def C_z24:Code:=cO Tryz.f24
def R_z24:Array ResultVar:=Tryz.f24.results
noncomputable def qop (K:Ex→Fr→Option AV):=fun s2 s3=>K .ret (frOf [(2,dc s2),(3,dc s3)])
def qoq (n:Nat):Ex→Fr→Option AV:=qp 0 (E_z24.cutb 0) (kSeq (evCP E_z24 (evLP E_z24 n) (sub C_z24 [1,1])) (kFnP E_z24 R_z24))
def qts (t0:List Int) (n4:Int):Fr:=frOf [(0,(.dat (.sl (.int .i32)) t0 none)),(4,dc n4)]
theorem qxE (K:Ex→Fr→Option AV):∀ (n:Nat) (t0:List Int) (n4:Int),evLP E_z24 n (sub C_z24 [1,0,1,0,0]) K (qts t0 n4)=qjh (qop K) (K (.exit 0) (frOf [])) n t0 n4:=by
 intro n;induction n with
 | zero=>intros; rfl
 | succ n IH =>
 intro t0 n4;have ih:(fun t0 n4=>evLP E_z24 n (sub C_z24 [1,0,1,0,0]) K (qts t0 n4))=qjh (qop K) (K (.exit 0) (frOf [])) n:=by
  funext t0 n4;exact IH t0 n4
 show _=qeL (qop K) (K (.exit 0) (frOf [])) (qjh (qop K) (K (.exit 0) (frOf [])) n) n t0 n4;rw [← ih];kernel_rfl
theorem qqx (n:Nat)  : (qoq n) (.exit 0) (frOf [])=qda n  := by
 kernel_rfl
theorem qJf (n:Nat) (t0:List Int) (o0:Lab):evFnP E_z24 n C_z24 R_z24 [.dat (.sl (.int .i32)) t0 o0]=qyP n t0:=by
 unfold qyP;rw [show qjh qdN (qda n) n=(fun t0 n4=>evLP E_z24 n (sub C_z24 [1,0,1,0,0]) (qoq n) (qts t0 n4)) from by
  funext t0 n4;refine Eq.trans ?_ (qxE (qoq n) n t0 n4).symm;rw [show ((qoq n) (.exit 0) (frOf []))=(qda n) from by
   exact qqx n ]
  all_goals kernel_rfl]
 kernel_rfl
theorem qor:qe G Tryz.prog 24 s_z24:=by
 refine sQ (E:=E_z24) (c:=C_z24) rfl (fun w S hg=>(qa (qxD w S hg) qc)) Tryz.func24 ?_;intro avs r h;unfold s_z24 at h;split at h
 ·obtain ⟨hp,rfl⟩:=yj h;obtain ⟨n,hn⟩:=qEd _ hp;exact ⟨n,_,(qJf n _ _).trans hn,.inl rfl⟩
 ·cases h
def E_z86:EnvP:=eQ [(97,s_z97)] 60 (some [2]) nC nC nP
def C_z86:Code:=cO Tryz.f86
def R_z86:Array ResultVar:=Tryz.f86.results
theorem qJg (n:Nat) (c0:Int) (o0:Lab):evFnP E_z86 n C_z86 R_z86 [di c0 o0]=qDd n c0:=by
 kernel_rfl
theorem qxF:qe G Tryz.prog 86 s_z86:=by
 refine sQ (E:=E_z86) (c:=C_z86) rfl (fun w S hg=>(qa (qiL w S hg) qc)) Tryz.func86 ?_;intro avs r h;unfold s_z86 at h;split at h <;> cases h
 obtain ⟨n,hn⟩:=qDI _;exact ⟨n,_,(qJg n _ _).trans hn,.inl rfl⟩
def E_z47:EnvP:=eQ [(82,s_z82),(83,s_z83),(84,s_z84),(85,s_z85),(86,s_z86)] 40 (some [4]) nC (fun x=>if x=0 then some [5] else none) nP
def C_z47:Code:=cO Tryz.f47
def R_z47:Array ResultVar:=Tryz.f47.results
theorem qJh (n:Nat) (charset0:Int) (o0:Lab) (c1:Int) (o1:Lab):evFnP E_z47 n C_z47 R_z47 [de charset0 o0,di c1 o1]=qDe n charset0 c1:=by
 kernel_rfl
theorem qxG:qe G Tryz.prog 47 s_z47:=by
 refine sQ (E:=E_z47) (c:=C_z47) rfl (fun w S hg=>(qa (qom w S hg) (qa (qof w S hg) (qa (qoi w S hg) (qa (qol w S hg) (qa (qxF w S hg) qc)))))) Tryz.func47 ?_;intro avs r h;unfold s_z47 at h;split at h <;> cases h
 obtain ⟨n,hn⟩:=qDW _ _;exact ⟨n,_,(qJh n _ _ _ _).trans hn,.inl rfl⟩
def E_z25:EnvP:=eQ [(47,s_z47)] 34 (some [4,5]) (fun x=>if x=5 then some [0,1,6,7] else none) (fun x=>if x=0 then some [6] else if x=1 then some [0,1,6,7] else none) nP
def C_z25:Code:=cO Tryz.f25
def R_z25:Array ResultVar:=Tryz.f25.results
noncomputable def qos (K:Ex→Fr→Option AV):=fun s4 s5=>K .ret (frOf [(4,(db s4 (some (4,5)))),(5,dc s5)])
noncomputable def qkv (K:Ex→Fr→Option AV):=fun out6=>K (.exit 0) (frOf [(6,(db out6 (some (6,5))))])
def qot (n:Nat):Ex→Fr→Option AV:=qp 0 (E_z25.cutb 0) (kSeq (evCP E_z25 (evLP E_z25 n) (sub C_z25 [1,1,1,1])) (kFnP E_z25 R_z25))
def qtt (charset0:Int) (t1:List Int) (out6:List UInt8) (i7:Int):Fr:=frOf [(0,dc charset0),(1,(.dat (.sl (.int .i32)) t1 none)),(6,(db out6 (some (6,5)))),(7,dc i7)]
theorem qxH (K:Ex→Fr→Option AV):∀ (n:Nat) (charset0:Int) (t1:List Int) (out6:List UInt8) (i7:Int),evLP E_z25 n (sub C_z25 [1,1,1,0,1,0,0]) K (qtt charset0 t1 out6 i7)=qmp (qos K) (qkv K) n charset0 t1 out6 i7:=by
 intro n;induction n with
 | zero=>intros; rfl
 | succ n IH =>
 intro charset0 t1 out6 i7;have ih:(fun charset0 t1 out6 i7=>evLP E_z25 n (sub C_z25 [1,1,1,0,1,0,0]) K (qtt charset0 t1 out6 i7))=qmp (qos K) (qkv K) n:=by
  funext charset0 t1 out6 i7;exact IH charset0 t1 out6 i7
 show _=qeM (qos K) (qkv K) (qmp (qos K) (qkv K) n) n charset0 t1 out6 i7;rw [← ih];kernel_rfl
theorem qqy (n:Nat) (out6:List UInt8):(qot n) (.exit 0) (frOf [(6,(db out6 (some (6,5))))])=qeN n out6:=by
 kernel_rfl
theorem qJi (n:Nat) (charset0:Int) (o0:Lab) (t1:List Int) (o1:Lab):evFnP E_z25 n C_z25 R_z25 [de charset0 o0,.dat (.sl (.int .i32)) t1 o1]=qyQ n charset0 t1:=by
 unfold qyQ;rw [show qmp qfn (qeN n) n=(fun charset0 t1 out6 i7=>evLP E_z25 n (sub C_z25 [1,1,1,0,1,0,0]) (qot n) (qtt charset0 t1 out6 i7)) from by
  funext charset0 t1 out6 i7;refine Eq.trans ?_ (qxH (qot n) n charset0 t1 out6 i7).symm;rw [show (qkv (qot n))=(qeN n) from by
   funext out6;exact qqy n out6]
  all_goals kernel_rfl]
 kernel_rfl
theorem qxI:qe G Tryz.prog 25 s_z25:=by
 refine sQ (E:=E_z25) (c:=C_z25) rfl (fun w S hg=>(qa (qxG w S hg) qc)) Tryz.func25 ?_;intro avs r h;unfold s_z25 at h;split at h
 ·obtain ⟨hp,rfl⟩:=yj h;obtain ⟨n,hn⟩:=qDX _ _ hp;exact ⟨n,_,(qJi n _ _ _ _).trans hn,.inl rfl⟩
 ·cases h
def qiM:EnvP:=eQ [] 17 (some [4]) (fun x=>if x=2 then some [0,1,5] else none) (fun x=>if x=0 then some [] else if x=1 then some [0,1,5] else none) nP
def qqz:Code:=cO Tryz.f126
def qGG:Array ResultVar:=Tryz.f126.results
noncomputable def qiN (K:Ex→Fr→Option AV):=fun s4=>K .ret (frOf [(4,dg s4)])
def qiO (n:Nat):Ex→Fr→Option AV:=qp 0 (qiM.cutb 0) (kSeq (evCP qiM (evLP qiM n) (sub qqz [1,1])) (kFnP qiM qGG))
def qlN (s0:List UInt8) (c1:UInt8) (i5:Int):Fr:=frOf [(0,(df s0 none)),(1,dm c1),(5,dc i5)]
theorem qtu (K:Ex→Fr→Option AV):∀ (n:Nat) (s0:List UInt8) (c1:UInt8) (i5:Int),evLP qiM n (sub qqz [1,0,1,0,0]) K (qlN s0 c1 i5)=qdO (qiN K) (K (.exit 0) (frOf [])) n s0 c1 i5:=by
 intro n;induction n with
 | zero=>intros; rfl
 | succ n IH =>
 intro s0 c1 i5;have ih:(fun s0 c1 i5=>evLP qiM n (sub qqz [1,0,1,0,0]) K (qlN s0 c1 i5))=qdO (qiN K) (K (.exit 0) (frOf [])) n:=by
  funext s0 c1 i5;exact IH s0 c1 i5
 show _=qcz (qiN K) (K (.exit 0) (frOf [])) (qdO (qiN K) (K (.exit 0) (frOf [])) n) n s0 c1 i5;rw [← ih];kernel_rfl
theorem qlO (n:Nat)  : (qiO n) (.exit 0) (frOf [])=qdP n  := by
 kernel_rfl
theorem qGH (n:Nat) (s0:List UInt8) (o0:Lab) (c1:UInt8) (o1:Lab):evFnP qiM n qqz qGG [df s0 o0,dn c1 o1]=qkP n s0 c1:=by
 unfold qkP;rw [show qdO qeO (qdP n) n=(fun s0 c1 i5=>evLP qiM n (sub qqz [1,0,1,0,0]) (qiO n) (qlN s0 c1 i5)) from by
  funext s0 c1 i5;refine Eq.trans ?_ (qtu (qiO n) n s0 c1 i5).symm;rw [show ((qiO n) (.exit 0) (frOf []))=(qdP n) from by
   exact qlO n ]
  all_goals kernel_rfl]
 kernel_rfl
theorem qtv:qe G Tryz.prog 126 s_z126:=by
 refine sQ (E:=qiM) (c:=qqz) rfl (fun w S hg=>qc) Tryz.func126 ?_;intro avs r h;unfold s_z126 at h;split at h
 ·obtain ⟨hp,rfl⟩:=yj h;obtain ⟨n,hn⟩:=qzk _ _ hp;exact ⟨n,_,(qGH n _ _ _ _).trans hn,.inl rfl⟩
 ·cases h
end
end Go.Av
