import Derived.Test.YtnfehbljinflbaaGreatDoorRRRRErEvH
import Derived.Test.YtnfehbljinflbaaGreatDoorRRRREtN
import Derived.Test.YtnfehbljinflbaaGreatDoorRRRRProg
import Derived.KernelRfl
namespace Go.Av
noncomputable section
open Go.Proofs
set_option maxRecDepth 100000
def qnT:EnvP:=eQ [] 19 (some [2]) (fun x=>if x=3 then some [0,3,4] else none) (fun x=>if x=0 then some [3] else if x=1 then some [0,3,4] else none) nP
def qyc:Code:=cO Tryz.f111
def qSu:Array ResultVar:=Tryz.f111.results
noncomputable def qjH (K:Ex→Fr→OA):=fun n3=>K (.exit 0) (frOf [(3,dc n3)])
def qnU (n:Nat):Ex→Fr→OA:=qh 0 (qnT.cutb 0) (kSeq (evCP qnT (evLP qnT n) (sub qyc [1,1,1])) (kFnP qnT qSu))
def qsF (l0:LI) (n3:Int) (i4:Int):Fr:=frOf [(0,(.dat (.sl (.int .i64)) l0 none)),(3,dc n3),(4,dc i4)]
theorem qCe (K:Ex→Fr→OA):∀ (n:Nat) (l0:LI) (n3:Int) (i4:Int),evLP qnT n (sub qyc [1,1,0,1,0,0]) K (qsF l0 n3 i4)=qkw (qjH K) n l0 n3 i4:=by
 intro n;induction n with
 | zero=>intros; rfl
 | succ n IH =>
 intro l0 n3 i4;have ih:(fun l0 n3 i4=>evLP qnT n (sub qyc [1,1,0,1,0,0]) K (qsF l0 n3 i4))=qkw (qjH K) n:=by
  funext l0 n3 i4;exact IH l0 n3 i4
 show _=qex (qjH K) (qkw (qjH K) n) n l0 n3 i4;rw [← ih];kernel_rfl
theorem qsG (n:Nat) (n3:Int):(qnU n) (.exit 0) (frOf [(3,dc n3)])=qgg n n3:=by
 kernel_rfl
theorem qSv (n:Nat) (l0:LI) (o0:Lab):evFnP qnT n qyc qSu [.dat (.sl (.int .i64)) l0 o0]=qvS n l0:=by
 unfold qvS;rw [show qkw (qgg n) n=(fun l0 n3 i4=>evLP qnT n (sub qyc [1,1,0,1,0,0]) (qnU n) (qsF l0 n3 i4)) from by
  funext l0 n3 i4;refine Eq.trans ?_ (qCe (qnU n) n l0 n3 i4).symm;rw [show (qjH (qnU n))=(qgg n) from by
   funext n3;exact qsG n n3]
  all_goals kernel_rfl]
 kernel_rfl
theorem qCf:qe G Tryz.prog 111 s_z111:=by
 refine sQ (E:=qnT) (c:=qyc) rfl (fun w S hg=>qc) Tryz.func111 ?_;intro avs r h;unfold s_z111 at h;split at h
 ·obtain ⟨hp,rfl⟩:=yj h;obtain ⟨n,hn⟩:=qIO _ hp;exact ⟨n,_,(qSv n _ _).trans hn,.inl rfl⟩
 ·cases h
def E_z72:EnvP:=eQ [(111,s_z111)] 29 (some [2,3]) (fun x=>if x=3 then some [0,4,5] else none) (fun x=>if x=0 then some [0,4,5] else if x=1 then some [0,4,5] else none) nP
def C_z72:Code:=cO Tryz.f72
def R_z72:Array ResultVar:=Tryz.f72.results
def qqi (l0:LI) (out4:LU) (i5:Int):Fr:=frOf [(0,(.dat (.sl (.int .i64)) l0 none)),(4,(db out4 (some (4,5)))),(5,dc i5)]
noncomputable def qqj (K:Ex→Fr→OA):=fun l0 out4 i5=>K (.exit 0) (qqi l0 out4 i5)
def qvh (n:Nat):Ex→Fr→OA:=qh 0 (E_z72.cutb 0) (kSeq (evCP E_z72 (evLP E_z72 n) (sub C_z72 [1,1,1,1])) (kFnP E_z72 R_z72))
theorem qHy (K:Ex→Fr→OA):∀ (n:Nat) (l0:LI) (out4:LU) (i5:Int),evLP E_z72 n (sub C_z72 [1,1,1,0,0,0]) K (qqi l0 out4 i5)=qtd (qqj K) n l0 out4 i5:=by
 intro n;induction n with
 | zero=>intros; rfl
 | succ n IH =>
 intro l0 out4 i5;have ih:(fun l0 out4 i5=>evLP E_z72 n (sub C_z72 [1,1,1,0,0,0]) K (qqi l0 out4 i5))=qtd (qqj K) n:=by
  funext l0 out4 i5;exact IH l0 out4 i5
 show _=qgY (qqj K) (qtd (qqj K) n) n l0 out4 i5;rw [← ih];kernel_rfl
theorem qyd (n:Nat) (l0:LI) (out4:LU) (i5:Int):(qvh n) (.exit 0) (qqi l0 out4 i5)=qgZ n l0 out4 i5:=by
 kernel_rfl
theorem qVx (n:Nat) (l0:LI) (o0:Lab):evFnP E_z72 n C_z72 R_z72 [.dat (.sl (.int .i64)) l0 o0]=qMY n l0:=by
 unfold qMY;rw [show qtd (qgZ n) n=(fun l0 out4 i5=>evLP E_z72 n (sub C_z72 [1,1,1,0,0,0]) (qvh n) (qqi l0 out4 i5)) from by
  funext l0 out4 i5;refine Eq.trans ?_ (qHy (qvh n) n l0 out4 i5).symm;rw [show (qqj (qvh n))=(qgZ n) from by
   funext l0 out4 i5;exact qyd n l0 out4 i5]
  all_goals kernel_rfl]
 kernel_rfl
theorem qvi:qe G Tryz.prog 72 s_z72:=by
 refine sQ (E:=E_z72) (c:=C_z72) rfl (fun w S hg=>(qa (qCf w S hg) qc)) Tryz.func72 ?_;intro avs r h;unfold s_z72 at h;split at h
 ·obtain ⟨hp,rfl⟩:=yj h;obtain ⟨n,hn⟩:=qOn _ hp;exact ⟨n,_,(qVx n _ _).trans hn,.inl rfl⟩
 ·cases h
def E_z43:EnvP:=eQ [(70,s_z70),(71,s_z71),(72,s_z72)] 29 (some [2,3]) nC nC nP
def C_z43:Code:=cO Tryz.f43
def R_z43:Array ResultVar:=Tryz.f43.results
theorem qVy (n:Nat) (s0:LU) (o0:Lab):evFnP E_z43 n C_z43 R_z43 [db s0 o0]=qMZ n s0:=by
 kernel_rfl
theorem qHz:qe G Tryz.prog 43 s_z43:=by
 refine sQ (E:=E_z43) (c:=C_z43) rfl (fun w S hg=>(qa (qHv w S hg) (qa (qvg w S hg) (qa (qvi w S hg) qc)))) Tryz.func43 ?_;intro avs r h;unfold s_z43 at h;split at h
 ·obtain ⟨hp,rfl⟩:=yj h;obtain ⟨n,hn⟩:=qOo _ hp;exact ⟨n,_,(qVy n _ _).trans hn,.inl rfl⟩
 ·cases h
def qSw:EnvP:=eQ [] 17 (some [2]) nC nC nP
def qSx:Code:=cO Tryz.f139
def qVz:Array ResultVar:=Tryz.f139.results
theorem qSy (n:Nat) (n0:Int) (o0:Lab):evFnP qSw n qSx qVz [de n0 o0]=qDN n n0:=by
 kernel_rfl
theorem qCg:qe G Tryz.prog 139 s_z139:=by
 refine sQ (E:=qSw) (c:=qSx) rfl (fun w S hg=>qc) Tryz.func139 ?_;intro avs r h;unfold s_z139 at h;split at h
 ·obtain ⟨hp,rfl⟩:=yj h;obtain ⟨n,hn⟩:=qIC _ hp;exact ⟨n,_,(qSy n _ _).trans hn,.inl rfl⟩
 ·cases h
def qnV:EnvP:=eQ [(139,s_z139)] 25 (some [2,3]) (fun x=>if x=2 then some [0,4] else none) (fun x=>if x=0 then some [] else if x=1 then some [0,4] else none) nP
def qye:Code:=cO Tryz.f112
def qSz:Array ResultVar:=Tryz.f112.results
noncomputable def qnW (K:Ex→Fr→OA):=fun s2 s3=>K .ret (frOf [(2,dc s2),(3,dg s3)])
def qnX (n:Nat):Ex→Fr→OA:=qh 0 (qnV.cutb 0) (kSeq (evCP qnV (evLP qnV n) (sub qye [1,1])) (kFnP qnV qSz))
def qsH (c0:UInt8) (n4:Int):Fr:=frOf [(0,dm c0),(4,dc n4)]
theorem qCh (K:Ex→Fr→OA):∀ (n:Nat) (c0:UInt8) (n4:Int),evLP qnV n (sub qye [1,0,1,0,0]) K (qsH c0 n4)=qgi (qnW K) (K (.exit 0) (frOf [])) n c0 n4:=by
 intro n;induction n with
 | zero=>intros; rfl
 | succ n IH =>
 intro c0 n4;have ih:(fun c0 n4=>evLP qnV n (sub qye [1,0,1,0,0]) K (qsH c0 n4))=qgi (qnW K) (K (.exit 0) (frOf [])) n:=by
  funext c0 n4;exact IH c0 n4
 show _=qey (qnW K) (K (.exit 0) (frOf [])) (qgi (qnW K) (K (.exit 0) (frOf [])) n) n c0 n4;rw [← ih];kernel_rfl
theorem qsI (n:Nat)  : (qnX n) (.exit 0) (frOf [])=qgj n  := by
 kernel_rfl
theorem qSA (n:Nat) (c0:UInt8) (o0:Lab):evFnP qnV n qye qSz [dn c0 o0]=qDO n c0:=by
 unfold qDO;rw [show qgi qkx (qgj n) n=(fun c0 n4=>evLP qnV n (sub qye [1,0,1,0,0]) (qnX n) (qsH c0 n4)) from by
  funext c0 n4;refine Eq.trans ?_ (qCh (qnX n) n c0 n4).symm;rw [show ((qnX n) (.exit 0) (frOf []))=(qgj n) from by
   exact qsI n ]
  all_goals kernel_rfl]
 kernel_rfl
theorem qCi:qe G Tryz.prog 112 s_z112:=by
 refine sQ (E:=qnV) (c:=qye) rfl (fun w S hg=>(qa (qCg w S hg) qc)) Tryz.func112 ?_;intro avs r h;unfold s_z112 at h;split at h <;> cases h
 obtain ⟨n,hn⟩:=qIE _;exact ⟨n,_,(qSA n _ _).trans hn,.inl rfl⟩
def E_z73:EnvP:=eQ [(112,s_z112)] 58 (some [6,7]) nC nC nP
def C_z73:Code:=cO Tryz.f73
def R_z73:Array ResultVar:=Tryz.f73.results
theorem qVA (n:Nat) (s0:LU) (o0:Lab) (at1:Int) (o1:Lab) (sign2:UInt8) (o2:Lab):evFnP E_z73 n C_z73 R_z73 [db s0 o0,de at1 o1,dn sign2 o2]=qNa n s0 at1 sign2:=by
 kernel_rfl
theorem qHA:qe G Tryz.prog 73 s_z73:=by
 refine sQ (E:=E_z73) (c:=C_z73) rfl (fun w S hg=>(qa (qCi w S hg) qc)) Tryz.func73 ?_;intro avs r h;unfold s_z73 at h;split at h
 ·obtain ⟨hp,rfl⟩:=yj h;obtain ⟨n,hn⟩:=qNG _ _ _ hp;exact ⟨n,_,(qVA n _ _ _ _ _ _).trans hn,.inl rfl⟩
 ·cases h
def E_z44:EnvP:=eQ [(73,s_z73)] 58 (some [2,3]) (fun x=>if x=4 then some [0,4,5,6] else none) (fun x=>if x=0 then some [4,5] else if x=1 then some [0,4,5,6] else if x=2 then some [0,4,5,6] else none) nP
def C_z44:Code:=cO Tryz.f44
def R_z44:Array ResultVar:=Tryz.f44.results
noncomputable def qqk (K:Ex→Fr→OA):=fun out4 strange5=>K (.exit 0) (frOf [(4,(db out4 (some (4,5)))),(5,dc strange5)])
def qvj (n:Nat):Ex→Fr→OA:=qh 0 (E_z44.cutb 0) (kSeq (evCP E_z44 (evLP E_z44 n) (sub C_z44 [1,1,1,1])) (kFnP E_z44 R_z44))
def qCj (s0:LU) (out4:LU) (strange5:Int) (i6:Int):Fr:=frOf [(0,da s0),(4,(db out4 (some (4,5)))),(5,dc strange5),(6,dc i6)]
theorem qHB (K:Ex→Fr→OA):∀ (n:Nat) (s0:LU) (out4:LU) (strange5:Int) (i6:Int),evLP E_z44 n (sub C_z44 [1,1,1,0,1,0,0]) K (qCj s0 out4 strange5 i6)=qtf (qqk K) n s0 out4 strange5 i6:=by
 intro n;induction n with
 | zero=>intros; rfl
 | succ n IH =>
 intro s0 out4 strange5 i6;have ih:(fun s0 out4 strange5 i6=>evLP E_z44 n (sub C_z44 [1,1,1,0,1,0,0]) K (qCj s0 out4 strange5 i6))=qtf (qqk K) n:=by
  funext s0 out4 strange5 i6;exact IH s0 out4 strange5 i6
 show _=qoz (qqk K) (qtf (qqk K) n) n s0 out4 strange5 i6;rw [← ih];kernel_rfl
theorem qyf (n:Nat) (out4:LU) (strange5:Int):(qvj n) (.exit 0) (frOf [(4,(db out4 (some (4,5)))),(5,dc strange5)])=qkz n out4 strange5:=by
 kernel_rfl
theorem qVB (n:Nat) (s0:LU) (o0:Lab):evFnP E_z44 n C_z44 R_z44 [db s0 o0]=qNb n s0:=by
 unfold qNb;rw [show qtf (qkz n) n=(fun s0 out4 strange5 i6=>evLP E_z44 n (sub C_z44 [1,1,1,0,1,0,0]) (qvj n) (qCj s0 out4 strange5 i6)) from by
  funext s0 out4 strange5 i6;refine Eq.trans ?_ (qHB (qvj n) n s0 out4 strange5 i6).symm;rw [show (qqk (qvj n))=(qkz n) from by
   funext out4 strange5;exact qyf n out4 strange5]
  all_goals kernel_rfl]
 kernel_rfl
theorem qvk:qe G Tryz.prog 44 s_z44:=by
 refine sQ (E:=E_z44) (c:=C_z44) rfl (fun w S hg=>(qa (qHA w S hg) qc)) Tryz.func44 ?_;intro avs r h;unfold s_z44 at h;split at h
 ·obtain ⟨hp,rfl⟩:=yj h;obtain ⟨n,hn⟩:=qOp _ hp;exact ⟨n,_,(qVB n _ _).trans hn,.inl rfl⟩
 ·cases h
def E_z81:EnvP:=eQ [] 23 (some [2]) nC nC nP
def C_z81:Code:=cO Tryz.f81
def R_z81:Array ResultVar:=Tryz.f81.results
theorem qVC (n:Nat) (c0:UInt8) (o0:Lab):evFnP E_z81 n C_z81 R_z81 [dn c0 o0]=qNc n c0:=by
 kernel_rfl
theorem qvl:qe G Tryz.prog 81 s_z81:=by
 refine sQ (E:=E_z81) (c:=C_z81) rfl (fun w S hg=>qc) Tryz.func81 ?_;intro avs r h;unfold s_z81 at h;split at h <;> cases h
 obtain ⟨n,hn⟩:=qOb _;exact ⟨n,_,(qVC n _ _).trans hn,.inl rfl⟩
def qSB:EnvP:=eQ [] 12 (some [2,3]) nC nC nP
def qSC:Code:=cO Tryz.f115
def qVD:Array ResultVar:=Tryz.f115.results
theorem qSD (n:Nat) (c0:UInt8) (o0:Lab):evFnP qSB n qSC qVD [dn c0 o0]=qDP n c0:=by
 kernel_rfl
theorem qCk:qe G Tryz.prog 115 s_z115:=by
 refine sQ (E:=qSB) (c:=qSC) rfl (fun w S hg=>qc) Tryz.func115 ?_;intro avs r h;unfold s_z115 at h;split at h <;> cases h
 obtain ⟨n,hn⟩:=qJn _;exact ⟨n,_,(qSD n _ _).trans hn,.inl rfl⟩
def E_z80:EnvP:=eQ [(81,s_z81),(115,s_z115)] 55 (some [2]) (fun x=>if x=4 then some [0,3] else none) (fun x=>if x=0 then some [3] else if x=1 then some [0,3] else none) nP
def C_z80:Code:=cO Tryz.f80
def R_z80:Array ResultVar:=Tryz.f80.results
noncomputable def qql (K:Ex→Fr→OA):=fun n3=>K (.exit 0) (frOf [(3,dc n3)])
noncomputable def qvm (K:Ex→Fr→OA):=fun s2=>K .ret (frOf [(2,dc s2)])
def qvn (n:Nat):Ex→Fr→OA:=qh 0 (E_z80.cutb 0) (kSeq (evCP E_z80 (evLP E_z80 n) (sub C_z80 [1,1,1,1])) (kFnP E_z80 R_z80))
def qCl (s0:LU) (n3:Int):Fr:=frOf [(0,da s0),(3,dc n3)]
theorem qHC (K:Ex→Fr→OA):∀ (n:Nat) (s0:LU) (n3:Int),evLP E_z80 n (sub C_z80 [1,1,1,0,0,0]) K (qCl s0 n3)=qqA (qvm K) (qql K) n s0 n3:=by
 intro n;induction n with
 | zero=>intros; rfl
 | succ n IH =>
 intro s0 n3;have ih:(fun s0 n3=>evLP E_z80 n (sub C_z80 [1,1,1,0,0,0]) K (qCl s0 n3))=qqA (qvm K) (qql K) n:=by
  funext s0 n3;exact IH s0 n3
 show _=qhb (qvm K) (qql K) (qqA (qvm K) (qql K) n) n s0 n3;rw [← ih];kernel_rfl
theorem qyg (n:Nat) (n3:Int):(qvn n) (.exit 0) (frOf [(3,dc n3)])=qhc n n3:=by
 kernel_rfl
theorem qVE (n:Nat) (s0:LU) (o0:Lab):evFnP E_z80 n C_z80 R_z80 [db s0 o0]=qIc n s0:=by
 unfold qIc;rw [show qqA qeG (qhc n) n=(fun s0 n3=>evLP E_z80 n (sub C_z80 [1,1,1,0,0,0]) (qvn n) (qCl s0 n3)) from by
  funext s0 n3;refine Eq.trans ?_ (qHC (qvn n) n s0 n3).symm;rw [show (qql (qvn n))=(qhc n) from by
   funext n3;exact qyg n n3]
  all_goals kernel_rfl]
 kernel_rfl
theorem qHD:qe G Tryz.prog 80 s_z80:=by
 refine sQ (E:=E_z80) (c:=C_z80) rfl (fun w S hg=>(qa (qvl w S hg) (qa (qCk w S hg) qc))) Tryz.func80 ?_;intro avs r h;unfold s_z80 at h;split at h
 ·obtain ⟨hp,rfl⟩:=yj h;obtain ⟨n,hn⟩:=qOc _ hp;exact ⟨n,_,(qVE n _ _).trans hn,.inl rfl⟩
 ·cases h
def E_z49:EnvP:=eQ [(80,s_z80),(81,s_z81)] 58 (some [2,3,4]) (fun x=>if x=8 then some [0,5,7,8] else none) (fun x=>if x=0 then some [5,7] else if x=1 then some [0,5,7,8] else none) nP
def C_z49:Code:=cO Tryz.f49
def R_z49:Array ResultVar:=Tryz.f49.results
noncomputable def qqm (K:Ex→Fr→OA):=fun n5 c7=>K (.exit 0) (frOf [(5,dc n5),(7,dc c7)])
def qvo (n:Nat):Ex→Fr→OA:=qh 0 (E_z49.cutb 0) (kSeq (evCP E_z49 (evLP E_z49 n) (sub C_z49 [1,1,1,0,1,0,1,1,1])) (kSeq (evCP E_z49 (evLP E_z49 n) (sub C_z49 [1,1,1,1])) (kFnP E_z49 R_z49)))
def qCm (s0:LU) (n5:Int) (c7:Int) (i8:Int):Fr:=frOf [(0,da s0),(5,dc n5),(7,dc c7),(8,dc i8)]
theorem qHE (K:Ex→Fr→OA):∀ (n:Nat) (s0:LU) (n5:Int) (c7:Int) (i8:Int),evLP E_z49 n (sub C_z49 [1,1,1,0,1,0,1,1,0,1,0,0]) K (qCm s0 n5 c7 i8)=qtg (qqm K) n s0 n5 c7 i8:=by
 intro n;induction n with
 | zero=>intros; rfl
 | succ n IH =>
 intro s0 n5 c7 i8;have ih:(fun s0 n5 c7 i8=>evLP E_z49 n (sub C_z49 [1,1,1,0,1,0,1,1,0,1,0,0]) K (qCm s0 n5 c7 i8))=qtg (qqm K) n:=by
  funext s0 n5 c7 i8;exact IH s0 n5 c7 i8
 show _=qhd (qqm K) (qtg (qqm K) n) n s0 n5 c7 i8;rw [← ih];kernel_rfl
theorem qyh (n:Nat) (n5:Int) (c7:Int):(qvo n) (.exit 0) (frOf [(5,dc n5),(7,dc c7)])=qkA n n5 c7:=by
 kernel_rfl
theorem qVF (n:Nat) (s0:LU) (o0:Lab):evFnP E_z49 n C_z49 R_z49 [db s0 o0]=qId n s0:=by
 unfold qId;rw [show qtg (qkA n) n=(fun s0 n5 c7 i8=>evLP E_z49 n (sub C_z49 [1,1,1,0,1,0,1,1,0,1,0,0]) (qvo n) (qCm s0 n5 c7 i8)) from by
  funext s0 n5 c7 i8;refine Eq.trans ?_ (qHE (qvo n) n s0 n5 c7 i8).symm;rw [show (qqm (qvo n))=(qkA n) from by
   funext n5 c7;exact qyh n n5 c7]
  all_goals kernel_rfl]
 kernel_rfl
theorem qHF:qe G Tryz.prog 49 s_z49:=by
 refine sQ (E:=E_z49) (c:=C_z49) rfl (fun w S hg=>(qa (qHD w S hg) (qa (qvl w S hg) qc))) Tryz.func49 ?_;intro avs r h;unfold s_z49 at h;split at h
 ·obtain ⟨hp,rfl⟩:=yj h;obtain ⟨n,hn⟩:=qOd _ hp;exact ⟨n,_,(qVF n _ _).trans hn,.inl rfl⟩
 ·cases h
def E_z27:EnvP:=eQ [(49,s_z49)] 42 (some [2,3,4]) (fun x=>if x=4 then some [0,5,6,7,8] else none) (fun x=>if x=0 then some [5,6,7] else if x=1 then some [0,5,6,7,8] else none) nP
def C_z27:Code:=cO Tryz.f27
def R_z27:Array ResultVar:=Tryz.f27.results
noncomputable def qqn (K:Ex→Fr→OA):=fun out5 broken6 first7=>K (.exit 0) (frOf [(5,(.dat (.sl (.int .i32)) out5 (some (5,21)))),(6,dc broken6),(7,dc first7)])
def qvp (n:Nat):Ex→Fr→OA:=qh 0 (E_z27.cutb 0) (kSeq (evCP E_z27 (evLP E_z27 n) (sub C_z27 [1,1,1,1])) (kFnP E_z27 R_z27))
def qCn (s0:LU) (out5:LI) (broken6:Int) (first7:Int) (at8:Int):Fr:=frOf [(0,da s0),(5,(.dat (.sl (.int .i32)) out5 (some (5,21)))),(6,dc broken6),(7,dc first7),(8,dc at8)]
theorem qHG (K:Ex→Fr→OA):∀ (n:Nat) (s0:LU) (out5:LI) (broken6:Int) (first7:Int) (at8:Int),evLP E_z27 n (sub C_z27 [1,1,1,0,1,0,0]) K (qCn s0 out5 broken6 first7 at8)=qqC (qqn K) n s0 out5 broken6 first7 at8:=by
 intro n;induction n with
 | zero=>intros; rfl
 | succ n IH =>
 intro s0 out5 broken6 first7 at8;have ih:(fun s0 out5 broken6 first7 at8=>evLP E_z27 n (sub C_z27 [1,1,1,0,1,0,0]) K (qCn s0 out5 broken6 first7 at8))=qqC (qqn K) n:=by
  funext s0 out5 broken6 first7 at8;exact IH s0 out5 broken6 first7 at8
 show _=qoA (qqn K) (qqC (qqn K) n) n s0 out5 broken6 first7 at8;rw [← ih];kernel_rfl
theorem qyi (n:Nat) (out5:LI) (broken6:Int) (first7:Int):(qvp n) (.exit 0) (frOf [(5,(.dat (.sl (.int .i32)) out5 (some (5,21)))),(6,dc broken6),(7,dc first7)])=qhe n out5 broken6 first7:=by
 kernel_rfl
theorem qVG (n:Nat) (s0:LU) (o0:Lab):evFnP E_z27 n C_z27 R_z27 [db s0 o0]=qNd n s0:=by
 unfold qNd;rw [show qqC (qhe n) n=(fun s0 out5 broken6 first7 at8=>evLP E_z27 n (sub C_z27 [1,1,1,0,1,0,0]) (qvp n) (qCn s0 out5 broken6 first7 at8)) from by
  funext s0 out5 broken6 first7 at8;refine Eq.trans ?_ (qHG (qvp n) n s0 out5 broken6 first7 at8).symm;rw [show (qqn (qvp n))=(qhe n) from by
   funext out5 broken6 first7;exact qyi n out5 broken6 first7]
  all_goals kernel_rfl]
 kernel_rfl
theorem qvq:qe G Tryz.prog 27 s_z27:=by
 refine sQ (E:=E_z27) (c:=C_z27) rfl (fun w S hg=>(qa (qHF w S hg) qc)) Tryz.func27 ?_;intro avs r h;unfold s_z27 at h;split at h
 ·obtain ⟨hp,rfl⟩:=yj h;obtain ⟨n,hn⟩:=qOg _ hp;exact ⟨n,_,(qVG n _ _).trans hn,.inl rfl⟩
 ·cases h
def E_z74:EnvP:=eQ [] 22 (some [2]) nC (fun x=>if x=0 then some [0] else none) nP
def C_z74:Code:=cO Tryz.f74
def R_z74:Array ResultVar:=Tryz.f74.results
theorem qVH (n:Nat) (x0:UInt8) (o0:Lab):evFnP E_z74 n C_z74 R_z74 [dn x0 o0]=qNe n x0:=by
 kernel_rfl
theorem qHH:qe G Tryz.prog 74 s_z74:=by
 refine sQ (E:=E_z74) (c:=C_z74) rfl (fun w S hg=>qc) Tryz.func74 ?_;intro avs r h;unfold s_z74 at h;split at h <;> cases h
 obtain ⟨n,hn⟩:=qNI _;exact ⟨n,_,(qVH n _ _).trans hn,.inl rfl⟩
def E_z75:EnvP:=eQ [] 18 (some [2]) nC nC nP
def C_z75:Code:=cO Tryz.f75
def R_z75:Array ResultVar:=Tryz.f75.results
theorem qVI (n:Nat) (x0:UInt8) (o0:Lab):evFnP E_z75 n C_z75 R_z75 [dn x0 o0]=qNf n x0:=by
 kernel_rfl
theorem qHI:qe G Tryz.prog 75 s_z75:=by
 refine sQ (E:=E_z75) (c:=C_z75) rfl (fun w S hg=>qc) Tryz.func75 ?_;intro avs r h;unfold s_z75 at h;split at h <;> cases h
 obtain ⟨n,hn⟩:=qNJ _;exact ⟨n,_,(qVI n _ _).trans hn,.inl rfl⟩
def E_z45:EnvP:=eQ [(27,s_z27),(74,s_z74),(75,s_z75)] 69 (some [1000004]) (fun x=>if x=6 then some [0,1,8,9] else none) (fun x=>if x=0 then some [8] else if x=1 then some [0,1,8,9] else if x=2 then some [0,1,8,9] else none) nP
def C_z45:Code:=cO Tryz.f45
def R_z45:Array ResultVar:=Tryz.f45.results
noncomputable def qqo (K:Ex→Fr→OA):=fun out8=>K (.exit 0) (frOf [(8,(.dat (.sl (.int .i32)) out8 (some (8,21))))])
def qvr (n:Nat):Ex→Fr→OA:=qh 0 (E_z45.cutb 0) (kSeq (evCP E_z45 (evLP E_z45 n) (sub C_z45 [1,1,1,1])) (kFnP E_z45 R_z45))
def qCo (charset0:Int) (s1:LU) (out8:LI) (i9:Int):Fr:=frOf [(0,dc charset0),(1,da s1),(8,(.dat (.sl (.int .i32)) out8 (some (8,21)))),(9,dc i9)]
theorem qHJ (K:Ex→Fr→OA):∀ (n:Nat) (charset0:Int) (s1:LU) (out8:LI) (i9:Int),evLP E_z45 n (sub C_z45 [1,1,1,0,1,0,0]) K (qCo charset0 s1 out8 i9)=qth (qqo K) n charset0 s1 out8 i9:=by
 intro n;induction n with
 | zero=>intros; rfl
 | succ n IH =>
 intro charset0 s1 out8 i9;have ih:(fun charset0 s1 out8 i9=>evLP E_z45 n (sub C_z45 [1,1,1,0,1,0,0]) K (qCo charset0 s1 out8 i9))=qth (qqo K) n:=by
  funext charset0 s1 out8 i9;exact IH charset0 s1 out8 i9
 show _=qhf (qqo K) (qth (qqo K) n) n charset0 s1 out8 i9;rw [← ih];kernel_rfl
theorem qyj (n:Nat) (out8:LI):(qvr n) (.exit 0) (frOf [(8,(.dat (.sl (.int .i32)) out8 (some (8,21))))])=qhg n out8:=by
 kernel_rfl
theorem qVJ (n:Nat) (charset0:Int) (o0:Lab) (s1:LU) (o1:Lab):evFnP E_z45 n C_z45 R_z45 [de charset0 o0,db s1 o1]=qIe n charset0 s1:=by
 unfold qIe;rw [show qth (qhg n) n=(fun charset0 s1 out8 i9=>evLP E_z45 n (sub C_z45 [1,1,1,0,1,0,0]) (qvr n) (qCo charset0 s1 out8 i9)) from by
  funext charset0 s1 out8 i9;refine Eq.trans ?_ (qHJ (qvr n) n charset0 s1 out8 i9).symm;rw [show (qqo (qvr n))=(qhg n) from by
   funext out8;exact qyj n out8]
  all_goals kernel_rfl]
 kernel_rfl
theorem qHK:qe G Tryz.prog 45 s_z45:=by
 refine sQ (E:=E_z45) (c:=C_z45) rfl (fun w S hg=>(qa (qvq w S hg) (qa (qHH w S hg) (qa (qHI w S hg) qc)))) Tryz.func45 ?_;intro avs r h;unfold s_z45 at h;split at h
 ·obtain ⟨hp,rfl⟩:=yj h;obtain ⟨n,hn⟩:=qOh _ _ hp;exact ⟨n,_,(qVJ n _ _ _ _).trans hn,.inl rfl⟩
 ·cases h
end
end Go.Av
