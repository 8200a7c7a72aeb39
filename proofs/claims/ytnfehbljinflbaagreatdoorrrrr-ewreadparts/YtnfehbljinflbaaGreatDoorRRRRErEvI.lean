import Derived.Test.YtnfehbljinflbaaGreatDoorRRRRErEvH
import Derived.Test.YtnfehbljinflbaaGreatDoorRRRREtN
import Derived.Test.YtnfehbljinflbaaGreatDoorRRRRProg
import Derived.KernelRfl
namespace Go.Av
noncomputable section
open Go.Proofs
set_option maxRecDepth 100000
def E_z70:EnvP:=eQ [(110,s_z110)] 42 (some [2,3]) (fun x=>if x=4 then some [0,4,5,6] else none) (fun x=>if x=0 then some [4,5] else if x=1 then some [0,4,5,6] else none) nP
def C_z70:Code:=cO Tryz.f70
def R_z70:Array ResultVar:=Tryz.f70.results
noncomputable def qqm (K:Ex→Fr→OA):=fun out4 strange5=>K (.exit 0) (frOf [(4,(db out4 (some (4,5)))),(5,dc strange5)])
def qvi (n:Nat):Ex→Fr→OA:=qg 0 (E_z70.cutb 0) (kSeq (evCP E_z70 (evLP E_z70 n) (sub C_z70 [1,1,1,1])) (kFnP E_z70 R_z70))
def qCg (s0:LU) (out4:LU) (strange5:Int) (i6:Int):Fr:=frOf [(0,da s0),(4,(db out4 (some (4,5)))),(5,dc strange5),(6,dc i6)]
theorem qHC (K:Ex→Fr→OA):∀ (n:Nat) (s0:LU) (out4:LU) (strange5:Int) (i6:Int),evLP E_z70 n (sub C_z70 [1,1,1,0,1,0,0]) K (qCg s0 out4 strange5 i6)=qte (qqm K) n s0 out4 strange5 i6:=by
 intro n;induction n with
 | zero=>intros; rfl
 | succ n IH =>
 intro s0 out4 strange5 i6;have ih:(fun s0 out4 strange5 i6=>evLP E_z70 n (sub C_z70 [1,1,1,0,1,0,0]) K (qCg s0 out4 strange5 i6))=qte (qqm K) n:=by
  funext s0 out4 strange5 i6;exact IH s0 out4 strange5 i6
 show _=qgY (qqm K) (qte (qqm K) n) n s0 out4 strange5 i6;rw [← ih];kernel_rfl
theorem qye (n:Nat) (out4:LU) (strange5:Int):(qvi n) (.exit 0) (frOf [(4,(db out4 (some (4,5)))),(5,dc strange5)])=qkw n out4 strange5:=by
 kernel_rfl
theorem qVt (n:Nat) (s0:LU) (o0:Lab):evFnP E_z70 n C_z70 R_z70 [db s0 o0]=qMW n s0:=by
 unfold qMW;rw [show qte (qkw n) n=(fun s0 out4 strange5 i6=>evLP E_z70 n (sub C_z70 [1,1,1,0,1,0,0]) (qvi n) (qCg s0 out4 strange5 i6)) from by
  funext s0 out4 strange5 i6;refine Eq.trans ?_ (qHC (qvi n) n s0 out4 strange5 i6).symm;rw [show (qqm (qvi n))=(qkw n) from by
   funext out4 strange5;exact qye n out4 strange5]
  all_goals kernel_rfl]
 kernel_rfl
theorem qHD:qe G Tryz.prog 70 s_z70:=by
 refine sQ (E:=E_z70) (c:=C_z70) rfl (fun w S hg=>(qa (qql w S hg) qc)) Tryz.func70 ?_;intro avs r h;unfold s_z70 at h;split at h
 ·obtain ⟨hp,rfl⟩:=yj h;obtain ⟨n,hn⟩:=qOh _ hp;exact ⟨n,_,(qVt n _ _).trans hn,.inl rfl⟩
 ·cases h
def E_z71:EnvP:=eQ [(110,s_z110)] 37 (some [2,3]) (fun x=>if x=3 then some [0,4,5] else if x=9 then some [0,4,5,6,8] else none) (fun x=>if x=0 then some [4] else if x=1 then some [0,4,5] else if x=2 then some [0,4,5] else if x=3 then some [0,4,5,6,8] else none) nP
def C_z71:Code:=cO Tryz.f71
def R_z71:Array ResultVar:=Tryz.f71.results
def qhy (s0:LU) (out4:LI) (i5:Int):Fr:=frOf [(0,da s0),(4,(.dat (.sl (.int .i64)) out4 (some (4,3)))),(5,dc i5)]
noncomputable def qqn (K:Ex→Fr→OA):=fun s0 out4 i5=>K (.exit 2) (qhy s0 out4 i5)
noncomputable def qlA (K:Ex→Fr→OA):=fun s2 s3=>K .ret (frOf [(2,(.dat (.sl (.int .i64)) s2 (some (2,3)))),(3,dg s3)])
noncomputable def qjG (K:Ex→Fr→OA):=fun out4=>K (.exit 0) (frOf [(4,(.dat (.sl (.int .i64)) out4 (some (4,3))))])
def qvj (n:Nat) (K:Ex→Fr→OA):Ex→Fr→OA:=qg 2 (E_z71.cutb 2) (qg 1 (E_z71.cutb 1) (kSeq (evCP E_z71 (evLP E_z71 n) (sub C_z71 [1,1,0,1,0,0,1,1])) (kSeq (fun K fr=>evLP E_z71 n (sub C_z71 [1,1,0,1,0,0]) K (cutFP (E_z71.cuts 3) fr)) K)))
def qvk (n:Nat):Ex→Fr→OA:=qg 0 (E_z71.cutb 0) (kSeq (evCP E_z71 (evLP E_z71 n) (sub C_z71 [1,1,1])) (kFnP E_z71 R_z71))
def qCh (s0:LU) (out4:LI) (i5:Int) (n6:Int) (k8:Int):Fr:=frOf [(0,da s0),(4,(.dat (.sl (.int .i64)) out4 (some (4,3)))),(5,dc i5),(6,dc n6),(8,dc k8)]
theorem qHE (K:Ex→Fr→OA):∀ (n:Nat) (s0:LU) (out4:LI) (i5:Int) (n6:Int) (k8:Int),evLP E_z71 n (sub C_z71 [1,1,0,1,0,0,1,0,0,1,1,1,0,0]) K (qCh s0 out4 i5 n6 k8)=qlf (qqn K) n s0 out4 i5 n6 k8:=by
 intro n;induction n with
 | zero=>intros; rfl
 | succ n IH =>
 intro s0 out4 i5 n6 k8;have ih:(fun s0 out4 i5 n6 k8=>evLP E_z71 n (sub C_z71 [1,1,0,1,0,0,1,0,0,1,1,1,0,0]) K (qCh s0 out4 i5 n6 k8))=qlf (qqn K) n:=by
  funext s0 out4 i5 n6 k8;exact IH s0 out4 i5 n6 k8
 show _=qoA (qqn K) (qlf (qqn K) n) n s0 out4 i5 n6 k8;rw [← ih];kernel_rfl
theorem qyf (K:Ex→Fr→OA) (n:Nat) (s0:LU) (out4:LI) (i5:Int):(qvj n K) (.exit 2) (qhy s0 out4 i5)=qoB (fun s2 s3=>K .ret (frOf [(2,(.dat (.sl (.int .i64)) s2 (some (2,3)))),(3,dg s3)])) (fun out4=>K (.exit 0) (frOf [(4,(.dat (.sl (.int .i64)) out4 (some (4,3))))])) (fun s0 out4 i5=>evLP E_z71 n (sub C_z71 [1,1,0,1,0,0]) K (qhy s0 out4 i5)) n s0 out4 i5:=by
 kernel_rfl
theorem qHF (K:Ex→Fr→OA):∀ (n:Nat) (s0:LU) (out4:LI) (i5:Int),evLP E_z71 n (sub C_z71 [1,1,0,1,0,0]) K (qhy s0 out4 i5)=qoC (qlA K) (qjG K) n s0 out4 i5:=by
 intro n;induction n with
 | zero=>intros; rfl
 | succ n IH =>
 intro s0 out4 i5;have ih:(fun s0 out4 i5=>evLP E_z71 n (sub C_z71 [1,1,0,1,0,0]) K (qhy s0 out4 i5))=qoC (qlA K) (qjG K) n:=by
  funext s0 out4 i5;exact IH s0 out4 i5
 show _=qeZ (qlA K) (qjG K) (qoC (qlA K) (qjG K) n) n s0 out4 i5;rw [← ih];unfold qeZ;rw [show qlf (qoB (qlA K) (qjG K) (fun s0 out4 i5=>evLP E_z71 n (sub C_z71 [1,1,0,1,0,0]) K (qhy s0 out4 i5)) n) n=(fun s0 out4 i5 n6 k8=>evLP E_z71 n (sub C_z71 [1,1,0,1,0,0,1,0,0,1,1,1,0,0]) (qvj n K) (qCh s0 out4 i5 n6 k8)) from by
  funext s0 out4 i5 n6 k8;refine Eq.trans ?_ (qHE (qvj n K) n s0 out4 i5 n6 k8).symm;rw [show (qqn (qvj n K))=(qoB (qlA K) (qjG K) (fun s0 out4 i5=>evLP E_z71 n (sub C_z71 [1,1,0,1,0,0]) K (qhy s0 out4 i5)) n) from by
   funext s0 out4 i5;exact qyf K n s0 out4 i5]
  all_goals kernel_rfl]
 kernel_rfl
theorem qyg (n:Nat) (out4:LI):(qvk n) (.exit 0) (frOf [(4,(.dat (.sl (.int .i64)) out4 (some (4,3))))])=qfa n out4:=by
 kernel_rfl
theorem qVu (n:Nat) (s0:LU) (o0:Lab):evFnP E_z71 n C_z71 R_z71 [db s0 o0]=qMX n s0:=by
 unfold qMX;rw [show qoC qdM (qfa n) n=(fun s0 out4 i5=>evLP E_z71 n (sub C_z71 [1,1,0,1,0,0]) (qvk n) (qhy s0 out4 i5)) from by
  funext s0 out4 i5;refine Eq.trans ?_ (qHF (qvk n) n s0 out4 i5).symm;rw [show (qjG (qvk n))=(qfa n) from by
   funext out4;exact qyg n out4]
  all_goals kernel_rfl]
 kernel_rfl
theorem qvl:qe G Tryz.prog 71 s_z71:=by
 refine sQ (E:=E_z71) (c:=C_z71) rfl (fun w S hg=>(qa (qql w S hg) qc)) Tryz.func71 ?_;intro avs r h;unfold s_z71 at h;split at h
 ·obtain ⟨hp,rfl⟩:=yj h;obtain ⟨n,hn⟩:=qOj _ hp;exact ⟨n,_,(qVu n _ _).trans hn,.inl rfl⟩
 ·cases h
def qnX:EnvP:=eQ [] 19 (some [2]) (fun x=>if x=3 then some [0,3,4] else none) (fun x=>if x=0 then some [3] else if x=1 then some [0,3,4] else none) nP
def qyh:Code:=cO Tryz.f111
def qSr:Array ResultVar:=Tryz.f111.results
noncomputable def qjH (K:Ex→Fr→OA):=fun n3=>K (.exit 0) (frOf [(3,dc n3)])
def qnY (n:Nat):Ex→Fr→OA:=qg 0 (qnX.cutb 0) (kSeq (evCP qnX (evLP qnX n) (sub qyh [1,1,1])) (kFnP qnX qSr))
def qsH (l0:LI) (n3:Int) (i4:Int):Fr:=frOf [(0,(.dat (.sl (.int .i64)) l0 none)),(3,dc n3),(4,dc i4)]
theorem qCi (K:Ex→Fr→OA):∀ (n:Nat) (l0:LI) (n3:Int) (i4:Int),evLP qnX n (sub qyh [1,1,0,1,0,0]) K (qsH l0 n3 i4)=qkx (qjH K) n l0 n3 i4:=by
 intro n;induction n with
 | zero=>intros; rfl
 | succ n IH =>
 intro l0 n3 i4;have ih:(fun l0 n3 i4=>evLP qnX n (sub qyh [1,1,0,1,0,0]) K (qsH l0 n3 i4))=qkx (qjH K) n:=by
  funext l0 n3 i4;exact IH l0 n3 i4
 show _=qey (qjH K) (qkx (qjH K) n) n l0 n3 i4;rw [← ih];kernel_rfl
theorem qsI (n:Nat) (n3:Int):(qnY n) (.exit 0) (frOf [(3,dc n3)])=qgf n n3:=by
 kernel_rfl
theorem qSs (n:Nat) (l0:LI) (o0:Lab):evFnP qnX n qyh qSr [.dat (.sl (.int .i64)) l0 o0]=qvV n l0:=by
 unfold qvV;rw [show qkx (qgf n) n=(fun l0 n3 i4=>evLP qnX n (sub qyh [1,1,0,1,0,0]) (qnY n) (qsH l0 n3 i4)) from by
  funext l0 n3 i4;refine Eq.trans ?_ (qCi (qnY n) n l0 n3 i4).symm;rw [show (qjH (qnY n))=(qgf n) from by
   funext n3;exact qsI n n3]
  all_goals kernel_rfl]
 kernel_rfl
theorem qCj:qe G Tryz.prog 111 s_z111:=by
 refine sQ (E:=qnX) (c:=qyh) rfl (fun w S hg=>qc) Tryz.func111 ?_;intro avs r h;unfold s_z111 at h;split at h
 ·obtain ⟨hp,rfl⟩:=yj h;obtain ⟨n,hn⟩:=qIQ _ hp;exact ⟨n,_,(qSs n _ _).trans hn,.inl rfl⟩
 ·cases h
def E_z72:EnvP:=eQ [(111,s_z111)] 29 (some [2,3]) (fun x=>if x=3 then some [0,4,5] else none) (fun x=>if x=0 then some [0,4,5] else if x=1 then some [0,4,5] else none) nP
def C_z72:Code:=cO Tryz.f72
def R_z72:Array ResultVar:=Tryz.f72.results
def qqo (l0:LI) (out4:LU) (i5:Int):Fr:=frOf [(0,(.dat (.sl (.int .i64)) l0 none)),(4,(db out4 (some (4,5)))),(5,dc i5)]
noncomputable def qqp (K:Ex→Fr→OA):=fun l0 out4 i5=>K (.exit 0) (qqo l0 out4 i5)
def qvm (n:Nat):Ex→Fr→OA:=qg 0 (E_z72.cutb 0) (kSeq (evCP E_z72 (evLP E_z72 n) (sub C_z72 [1,1,1,1])) (kFnP E_z72 R_z72))
theorem qHG (K:Ex→Fr→OA):∀ (n:Nat) (l0:LI) (out4:LU) (i5:Int),evLP E_z72 n (sub C_z72 [1,1,1,0,0,0]) K (qqo l0 out4 i5)=qtf (qqp K) n l0 out4 i5:=by
 intro n;induction n with
 | zero=>intros; rfl
 | succ n IH =>
 intro l0 out4 i5;have ih:(fun l0 out4 i5=>evLP E_z72 n (sub C_z72 [1,1,1,0,0,0]) K (qqo l0 out4 i5))=qtf (qqp K) n:=by
  funext l0 out4 i5;exact IH l0 out4 i5
 show _=qgZ (qqp K) (qtf (qqp K) n) n l0 out4 i5;rw [← ih];kernel_rfl
theorem qyi (n:Nat) (l0:LI) (out4:LU) (i5:Int):(qvm n) (.exit 0) (qqo l0 out4 i5)=qha n l0 out4 i5:=by
 kernel_rfl
theorem qVv (n:Nat) (l0:LI) (o0:Lab):evFnP E_z72 n C_z72 R_z72 [.dat (.sl (.int .i64)) l0 o0]=qMY n l0:=by
 unfold qMY;rw [show qtf (qha n) n=(fun l0 out4 i5=>evLP E_z72 n (sub C_z72 [1,1,1,0,0,0]) (qvm n) (qqo l0 out4 i5)) from by
  funext l0 out4 i5;refine Eq.trans ?_ (qHG (qvm n) n l0 out4 i5).symm;rw [show (qqp (qvm n))=(qha n) from by
   funext l0 out4 i5;exact qyi n l0 out4 i5]
  all_goals kernel_rfl]
 kernel_rfl
theorem qvn:qe G Tryz.prog 72 s_z72:=by
 refine sQ (E:=E_z72) (c:=C_z72) rfl (fun w S hg=>(qa (qCj w S hg) qc)) Tryz.func72 ?_;intro avs r h;unfold s_z72 at h;split at h
 ·obtain ⟨hp,rfl⟩:=yj h;obtain ⟨n,hn⟩:=qOk _ hp;exact ⟨n,_,(qVv n _ _).trans hn,.inl rfl⟩
 ·cases h
def E_z43:EnvP:=eQ [(70,s_z70),(71,s_z71),(72,s_z72)] 29 (some [2,3]) nC nC nP
def C_z43:Code:=cO Tryz.f43
def R_z43:Array ResultVar:=Tryz.f43.results
theorem qVw (n:Nat) (s0:LU) (o0:Lab):evFnP E_z43 n C_z43 R_z43 [db s0 o0]=qMZ n s0:=by
 kernel_rfl
theorem qHH:qe G Tryz.prog 43 s_z43:=by
 refine sQ (E:=E_z43) (c:=C_z43) rfl (fun w S hg=>(qa (qHD w S hg) (qa (qvl w S hg) (qa (qvn w S hg) qc)))) Tryz.func43 ?_;intro avs r h;unfold s_z43 at h;split at h
 ·obtain ⟨hp,rfl⟩:=yj h;obtain ⟨n,hn⟩:=qOl _ hp;exact ⟨n,_,(qVw n _ _).trans hn,.inl rfl⟩
 ·cases h
def qSt:EnvP:=eQ [] 17 (some [2]) nC nC nP
def qSu:Code:=cO Tryz.f139
def qVx:Array ResultVar:=Tryz.f139.results
theorem qSv (n:Nat) (n0:Int) (o0:Lab):evFnP qSt n qSu qVx [de n0 o0]=qDS n n0:=by
 kernel_rfl
theorem qCk:qe G Tryz.prog 139 s_z139:=by
 refine sQ (E:=qSt) (c:=qSu) rfl (fun w S hg=>qc) Tryz.func139 ?_;intro avs r h;unfold s_z139 at h;split at h
 ·obtain ⟨hp,rfl⟩:=yj h;obtain ⟨n,hn⟩:=qIE _ hp;exact ⟨n,_,(qSv n _ _).trans hn,.inl rfl⟩
 ·cases h
def qnZ:EnvP:=eQ [(139,s_z139)] 25 (some [2,3]) (fun x=>if x=2 then some [0,4] else none) (fun x=>if x=0 then some [] else if x=1 then some [0,4] else none) nP
def qyj:Code:=cO Tryz.f112
def qSw:Array ResultVar:=Tryz.f112.results
noncomputable def qoa (K:Ex→Fr→OA):=fun s2 s3=>K .ret (frOf [(2,dc s2),(3,dg s3)])
def qob (n:Nat):Ex→Fr→OA:=qg 0 (qnZ.cutb 0) (kSeq (evCP qnZ (evLP qnZ n) (sub qyj [1,1])) (kFnP qnZ qSw))
def qsJ (c0:UInt8) (n4:Int):Fr:=frOf [(0,dm c0),(4,dc n4)]
theorem qCl (K:Ex→Fr→OA):∀ (n:Nat) (c0:UInt8) (n4:Int),evLP qnZ n (sub qyj [1,0,1,0,0]) K (qsJ c0 n4)=qgh (qoa K) (K (.exit 0) (frOf [])) n c0 n4:=by
 intro n;induction n with
 | zero=>intros; rfl
 | succ n IH =>
 intro c0 n4;have ih:(fun c0 n4=>evLP qnZ n (sub qyj [1,0,1,0,0]) K (qsJ c0 n4))=qgh (qoa K) (K (.exit 0) (frOf [])) n:=by
  funext c0 n4;exact IH c0 n4
 show _=qez (qoa K) (K (.exit 0) (frOf [])) (qgh (qoa K) (K (.exit 0) (frOf [])) n) n c0 n4;rw [← ih];kernel_rfl
theorem qsK (n:Nat)  : (qob n) (.exit 0) (frOf [])=qgi n  := by
 kernel_rfl
theorem qSx (n:Nat) (c0:UInt8) (o0:Lab):evFnP qnZ n qyj qSw [dn c0 o0]=qDT n c0:=by
 unfold qDT;rw [show qgh qky (qgi n) n=(fun c0 n4=>evLP qnZ n (sub qyj [1,0,1,0,0]) (qob n) (qsJ c0 n4)) from by
  funext c0 n4;refine Eq.trans ?_ (qCl (qob n) n c0 n4).symm;rw [show ((qob n) (.exit 0) (frOf []))=(qgi n) from by
   exact qsK n ]
  all_goals kernel_rfl]
 kernel_rfl
theorem qCm:qe G Tryz.prog 112 s_z112:=by
 refine sQ (E:=qnZ) (c:=qyj) rfl (fun w S hg=>(qa (qCk w S hg) qc)) Tryz.func112 ?_;intro avs r h;unfold s_z112 at h;split at h <;> cases h
 obtain ⟨n,hn⟩:=qIG _;exact ⟨n,_,(qSx n _ _).trans hn,.inl rfl⟩
def E_z73:EnvP:=eQ [(112,s_z112)] 58 (some [6,7]) nC nC nP
def C_z73:Code:=cO Tryz.f73
def R_z73:Array ResultVar:=Tryz.f73.results
theorem qVy (n:Nat) (s0:LU) (o0:Lab) (at1:Int) (o1:Lab) (sign2:UInt8) (o2:Lab):evFnP E_z73 n C_z73 R_z73 [db s0 o0,de at1 o1,dn sign2 o2]=qNa n s0 at1 sign2:=by
 kernel_rfl
theorem qHI:qe G Tryz.prog 73 s_z73:=by
 refine sQ (E:=E_z73) (c:=C_z73) rfl (fun w S hg=>(qa (qCm w S hg) qc)) Tryz.func73 ?_;intro avs r h;unfold s_z73 at h;split at h
 ·obtain ⟨hp,rfl⟩:=yj h;obtain ⟨n,hn⟩:=qND _ _ _ hp;exact ⟨n,_,(qVy n _ _ _ _ _ _).trans hn,.inl rfl⟩
 ·cases h
def E_z44:EnvP:=eQ [(73,s_z73)] 58 (some [2,3]) (fun x=>if x=4 then some [0,4,5,6] else none) (fun x=>if x=0 then some [4,5] else if x=1 then some [0,4,5,6] else if x=2 then some [0,4,5,6] else none) nP
def C_z44:Code:=cO Tryz.f44
def R_z44:Array ResultVar:=Tryz.f44.results
noncomputable def qqq (K:Ex→Fr→OA):=fun out4 strange5=>K (.exit 0) (frOf [(4,(db out4 (some (4,5)))),(5,dc strange5)])
def qvo (n:Nat):Ex→Fr→OA:=qg 0 (E_z44.cutb 0) (kSeq (evCP E_z44 (evLP E_z44 n) (sub C_z44 [1,1,1,1])) (kFnP E_z44 R_z44))
def qCn (s0:LU) (out4:LU) (strange5:Int) (i6:Int):Fr:=frOf [(0,da s0),(4,(db out4 (some (4,5)))),(5,dc strange5),(6,dc i6)]
theorem qHJ (K:Ex→Fr→OA):∀ (n:Nat) (s0:LU) (out4:LU) (strange5:Int) (i6:Int),evLP E_z44 n (sub C_z44 [1,1,1,0,1,0,0]) K (qCn s0 out4 strange5 i6)=qth (qqq K) n s0 out4 strange5 i6:=by
 intro n;induction n with
 | zero=>intros; rfl
 | succ n IH =>
 intro s0 out4 strange5 i6;have ih:(fun s0 out4 strange5 i6=>evLP E_z44 n (sub C_z44 [1,1,1,0,1,0,0]) K (qCn s0 out4 strange5 i6))=qth (qqq K) n:=by
  funext s0 out4 strange5 i6;exact IH s0 out4 strange5 i6
 show _=qoD (qqq K) (qth (qqq K) n) n s0 out4 strange5 i6;rw [← ih];kernel_rfl
theorem qyk (n:Nat) (out4:LU) (strange5:Int):(qvo n) (.exit 0) (frOf [(4,(db out4 (some (4,5)))),(5,dc strange5)])=qkA n out4 strange5:=by
 kernel_rfl
theorem qVz (n:Nat) (s0:LU) (o0:Lab):evFnP E_z44 n C_z44 R_z44 [db s0 o0]=qNb n s0:=by
 unfold qNb;rw [show qth (qkA n) n=(fun s0 out4 strange5 i6=>evLP E_z44 n (sub C_z44 [1,1,1,0,1,0,0]) (qvo n) (qCn s0 out4 strange5 i6)) from by
  funext s0 out4 strange5 i6;refine Eq.trans ?_ (qHJ (qvo n) n s0 out4 strange5 i6).symm;rw [show (qqq (qvo n))=(qkA n) from by
   funext out4 strange5;exact qyk n out4 strange5]
  all_goals kernel_rfl]
 kernel_rfl
theorem qvp:qe G Tryz.prog 44 s_z44:=by
 refine sQ (E:=E_z44) (c:=C_z44) rfl (fun w S hg=>(qa (qHI w S hg) qc)) Tryz.func44 ?_;intro avs r h;unfold s_z44 at h;split at h
 ·obtain ⟨hp,rfl⟩:=yj h;obtain ⟨n,hn⟩:=qOm _ hp;exact ⟨n,_,(qVz n _ _).trans hn,.inl rfl⟩
 ·cases h
def E_z81:EnvP:=eQ [] 23 (some [2]) nC nC nP
def C_z81:Code:=cO Tryz.f81
def R_z81:Array ResultVar:=Tryz.f81.results
theorem qVA (n:Nat) (c0:UInt8) (o0:Lab):evFnP E_z81 n C_z81 R_z81 [dn c0 o0]=qNc n c0:=by
 kernel_rfl
theorem qvq:qe G Tryz.prog 81 s_z81:=by
 refine sQ (E:=E_z81) (c:=C_z81) rfl (fun w S hg=>qc) Tryz.func81 ?_;intro avs r h;unfold s_z81 at h;split at h <;> cases h
 obtain ⟨n,hn⟩:=qNY _;exact ⟨n,_,(qVA n _ _).trans hn,.inl rfl⟩
def qSy:EnvP:=eQ [] 12 (some [2,3]) nC nC nP
def qSz:Code:=cO Tryz.f115
def qVB:Array ResultVar:=Tryz.f115.results
theorem qSA (n:Nat) (c0:UInt8) (o0:Lab):evFnP qSy n qSz qVB [dn c0 o0]=qDU n c0:=by
 kernel_rfl
theorem qCo:qe G Tryz.prog 115 s_z115:=by
 refine sQ (E:=qSy) (c:=qSz) rfl (fun w S hg=>qc) Tryz.func115 ?_;intro avs r h;unfold s_z115 at h;split at h <;> cases h
 obtain ⟨n,hn⟩:=qJp _;exact ⟨n,_,(qSA n _ _).trans hn,.inl rfl⟩
def E_z80:EnvP:=eQ [(81,s_z81),(115,s_z115)] 55 (some [2]) (fun x=>if x=4 then some [0,3] else none) (fun x=>if x=0 then some [3] else if x=1 then some [0,3] else none) nP
def C_z80:Code:=cO Tryz.f80
def R_z80:Array ResultVar:=Tryz.f80.results
noncomputable def qqr (K:Ex→Fr→OA):=fun n3=>K (.exit 0) (frOf [(3,dc n3)])
noncomputable def qvr (K:Ex→Fr→OA):=fun s2=>K .ret (frOf [(2,dc s2)])
def qvs (n:Nat):Ex→Fr→OA:=qg 0 (E_z80.cutb 0) (kSeq (evCP E_z80 (evLP E_z80 n) (sub C_z80 [1,1,1,1])) (kFnP E_z80 R_z80))
def qCp (s0:LU) (n3:Int):Fr:=frOf [(0,da s0),(3,dc n3)]
theorem qHK (K:Ex→Fr→OA):∀ (n:Nat) (s0:LU) (n3:Int),evLP E_z80 n (sub C_z80 [1,1,1,0,0,0]) K (qCp s0 n3)=qqC (qvr K) (qqr K) n s0 n3:=by
 intro n;induction n with
 | zero=>intros; rfl
 | succ n IH =>
 intro s0 n3;have ih:(fun s0 n3=>evLP E_z80 n (sub C_z80 [1,1,1,0,0,0]) K (qCp s0 n3))=qqC (qvr K) (qqr K) n:=by
  funext s0 n3;exact IH s0 n3
 show _=qhc (qvr K) (qqr K) (qqC (qvr K) (qqr K) n) n s0 n3;rw [← ih];kernel_rfl
theorem qyl (n:Nat) (n3:Int):(qvs n) (.exit 0) (frOf [(3,dc n3)])=qhd n n3:=by
 kernel_rfl
theorem qVC (n:Nat) (s0:LU) (o0:Lab):evFnP E_z80 n C_z80 R_z80 [db s0 o0]=qIf n s0:=by
 unfold qIf;rw [show qqC qeH (qhd n) n=(fun s0 n3=>evLP E_z80 n (sub C_z80 [1,1,1,0,0,0]) (qvs n) (qCp s0 n3)) from by
  funext s0 n3;refine Eq.trans ?_ (qHK (qvs n) n s0 n3).symm;rw [show (qqr (qvs n))=(qhd n) from by
   funext n3;exact qyl n n3]
  all_goals kernel_rfl]
 kernel_rfl
theorem qHL:qe G Tryz.prog 80 s_z80:=by
 refine sQ (E:=E_z80) (c:=C_z80) rfl (fun w S hg=>(qa (qvq w S hg) (qa (qCo w S hg) qc))) Tryz.func80 ?_;intro avs r h;unfold s_z80 at h;split at h
 ·obtain ⟨hp,rfl⟩:=yj h;obtain ⟨n,hn⟩:=qNZ _ hp;exact ⟨n,_,(qVC n _ _).trans hn,.inl rfl⟩
 ·cases h
def E_z49:EnvP:=eQ [(80,s_z80),(81,s_z81)] 58 (some [2,3,4]) (fun x=>if x=8 then some [0,5,7,8] else none) (fun x=>if x=0 then some [5,7] else if x=1 then some [0,5,7,8] else none) nP
def C_z49:Code:=cO Tryz.f49
def R_z49:Array ResultVar:=Tryz.f49.results
noncomputable def qqs (K:Ex→Fr→OA):=fun n5 c7=>K (.exit 0) (frOf [(5,dc n5),(7,dc c7)])
def qvt (n:Nat):Ex→Fr→OA:=qg 0 (E_z49.cutb 0) (kSeq (evCP E_z49 (evLP E_z49 n) (sub C_z49 [1,1,1,0,1,0,1,1,1])) (kSeq (evCP E_z49 (evLP E_z49 n) (sub C_z49 [1,1,1,1])) (kFnP E_z49 R_z49)))
def qCq (s0:LU) (n5:Int) (c7:Int) (i8:Int):Fr:=frOf [(0,da s0),(5,dc n5),(7,dc c7),(8,dc i8)]
theorem qHM (K:Ex→Fr→OA):∀ (n:Nat) (s0:LU) (n5:Int) (c7:Int) (i8:Int),evLP E_z49 n (sub C_z49 [1,1,1,0,1,0,1,1,0,1,0,0]) K (qCq s0 n5 c7 i8)=qti (qqs K) n s0 n5 c7 i8:=by
 intro n;induction n with
 | zero=>intros; rfl
 | succ n IH =>
 intro s0 n5 c7 i8;have ih:(fun s0 n5 c7 i8=>evLP E_z49 n (sub C_z49 [1,1,1,0,1,0,1,1,0,1,0,0]) K (qCq s0 n5 c7 i8))=qti (qqs K) n:=by
  funext s0 n5 c7 i8;exact IH s0 n5 c7 i8
 show _=qhe (qqs K) (qti (qqs K) n) n s0 n5 c7 i8;rw [← ih];kernel_rfl
theorem qym (n:Nat) (n5:Int) (c7:Int):(qvt n) (.exit 0) (frOf [(5,dc n5),(7,dc c7)])=qkB n n5 c7:=by
 kernel_rfl
theorem qVD (n:Nat) (s0:LU) (o0:Lab):evFnP E_z49 n C_z49 R_z49 [db s0 o0]=qIg n s0:=by
 unfold qIg;rw [show qti (qkB n) n=(fun s0 n5 c7 i8=>evLP E_z49 n (sub C_z49 [1,1,1,0,1,0,1,1,0,1,0,0]) (qvt n) (qCq s0 n5 c7 i8)) from by
  funext s0 n5 c7 i8;refine Eq.trans ?_ (qHM (qvt n) n s0 n5 c7 i8).symm;rw [show (qqs (qvt n))=(qkB n) from by
   funext n5 c7;exact qym n n5 c7]
  all_goals kernel_rfl]
 kernel_rfl
theorem qHN:qe G Tryz.prog 49 s_z49:=by
 refine sQ (E:=E_z49) (c:=C_z49) rfl (fun w S hg=>(qa (qHL w S hg) (qa (qvq w S hg) qc))) Tryz.func49 ?_;intro avs r h;unfold s_z49 at h;split at h
 ·obtain ⟨hp,rfl⟩:=yj h;obtain ⟨n,hn⟩:=qOa _ hp;exact ⟨n,_,(qVD n _ _).trans hn,.inl rfl⟩
 ·cases h
end
end Go.Av
