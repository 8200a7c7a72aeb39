import Derived.Test.YtcbimkaeoojceaaGreatDoorPjEvA
import Derived.Test.YtcbimkaeoojceaaGreatDoorPjU
import Derived.Test.YtcbimkaeoojceaaGreatDoorProg
import Derived.KernelRfl
namespace Go.Av
set_option linter.unusedSimpArgs false
set_option linter.unusedVariables false
noncomputable section
open Go.Proofs
set_option maxRecDepth 100000
def qkR:EnvP:=eQ [] 21 (some [2,3]) (fun x=>if x=2 then some [0,2,4] else none) (fun x=>if x=0 then some [2] else if x=1 then some [0,2,4] else none) nP
def qul:Code:=cO Tryz.f125
def qMF:Array ResultVar:=Tryz.f125.results
noncomputable def qkS (K:Ex→Fr→OA):=fun as2 ok3=>K .ret (frOf [(2,(.box (.arr 256 .bool) as2)),(3,dg ok3)])
noncomputable def qir (K:Ex→Fr→OA):=fun as2=>K (.exit 0) (frOf [(2,(.box (.arr 256 .bool) as2))])
def qkT (n:Nat):Ex→Fr→OA:=qw 0 (qkR.cutb 0) (kSeq (evCP qkR (evLP qkR n) (sub qul [1,1])) (kFnP qkR qMF))
def qoR (chars0:LU) (as2:List Bool) (i4:Int):Fr:=frOf [(0,(df chars0 none)),(2,(.box (.arr 256 .bool) as2)),(4,dc i4)]
theorem qxp (K:Ex→Fr→OA):∀ (n:Nat) (chars0:LU) (as2:List Bool) (i4:Int),evLP qkR n (sub qul [1,0,1,0,0]) K (qoR chars0 as2 i4)=qeY (qkS K) (qir K) n chars0 as2 i4:=by
 intro n;induction n with
 | zero=>intros; rfl
 | succ n IH =>
 intro chars0 as2 i4;have ih:(fun chars0 as2 i4=>evLP qkR n (sub qul [1,0,1,0,0]) K (qoR chars0 as2 i4))=qeY (qkS K) (qir K) n:=by
  funext chars0 as2 i4;exact IH chars0 as2 i4
 show _=qdA (qkS K) (qir K) (qeY (qkS K) (qir K) n) n chars0 as2 i4;rw [← ih];kernel_rfl
theorem qoS (n:Nat) (as2:List Bool):(qkT n) (.exit 0) (frOf [(2,(.box (.arr 256 .bool) as2))])=qeZ n as2:=by
 kernel_rfl
theorem qMG (n:Nat) (chars0:LU) (o0:Lab):evFnP qkR n qul qMF [df chars0 o0]=qzu n chars0:=by
 unfold qzu;rw [show qeY qiG (qeZ n) n=(fun chars0 as2 i4=>evLP qkR n (sub qul [1,0,1,0,0]) (qkT n) (qoR chars0 as2 i4)) from by
  funext chars0 as2 i4;refine Eq.trans ?_ (qxp (qkT n) n chars0 as2 i4).symm;rw [show (qir (qkT n))=(qeZ n) from by
   funext as2;exact qoS n as2]
  all_goals kernel_rfl]
 kernel_rfl
theorem qxq:qf G Tryz.prog 125 s_z125:=by
 refine sQ (E:=qkR) (c:=qul) rfl (fun w S hg=>qd) Tryz.func125 ?_;intro avs r h;unfold s_z125 at h;split at h
 ·obtain ⟨hp,rfl⟩:=yj h;obtain ⟨n,hn⟩:=qFC _ hp;exact ⟨n,_,(qMG n _ _).trans hn,.inl rfl⟩
 ·cases h
def qMH:EnvP:=eQ [] 10 (some [4]) nC nC nP
def qMI:Code:=cO Tryz.f134
def qPF:Array ResultVar:=Tryz.f134.results
theorem qMJ (n:Nat) (as0:List Bool) (c1:UInt8) (o1:Lab):evFnP qMH n qMI qPF [.adr (.arr 256 .bool) as0,dp c1 o1]=qzw n as0 c1:=by
 kernel_rfl
theorem qmV:qf G Tryz.prog 134 s_z134:=by
 refine sQ (E:=qMH) (c:=qMI) rfl (fun w S hg=>qd) Tryz.func134 ?_;intro avs r h;unfold s_z134 at h;split at h <;> cases h
 obtain ⟨n,hn⟩:=qFD _ _;exact ⟨n,_,(qMJ n _ _ _).trans hn,.inl rfl⟩
def qkU:EnvP:=eQ [(134,s_z134)] 20 (some [1000004]) (fun x=>if x=1 then some [0,1] else none) (fun x=>if x=0 then some [0] else if x=1 then some [0,1] else none) nP
def qum:Code:=cO Tryz.f126
def qMK:Array ResultVar:=Tryz.f126.results
noncomputable def qis (K:Ex→Fr→OA):=fun s0=>K (.exit 0) (frOf [(0,da s0)])
def qkV (n:Nat):Ex→Fr→OA:=qw 0 (qkU.cutb 0) (kSeq (evCP qkU (evLP qkU n) (sub qum [1,1])) (kFnP qkU qMK))
def qoT (s0:LU) (as1:List Bool):Fr:=frOf [(0,da s0),(1,(.adr (.arr 256 .bool) as1))]
theorem qxr (K:Ex→Fr→OA):∀ (n:Nat) (s0:LU) (as1:List Bool),evLP qkU n (sub qum [1,0,0,0]) K (qoT s0 as1)=qgG (qis K) n s0 as1:=by
 intro n;induction n with
 | zero=>intros; rfl
 | succ n IH =>
 intro s0 as1;have ih:(fun s0 as1=>evLP qkU n (sub qum [1,0,0,0]) K (qoT s0 as1))=qgG (qis K) n:=by
  funext s0 as1;exact IH s0 as1
 show _=qhw (qis K) (qgG (qis K) n) n s0 as1;rw [← ih];kernel_rfl
theorem qoU (n:Nat) (s0:LU):(qkV n) (.exit 0) (frOf [(0,da s0)])=qfa n s0:=by
 kernel_rfl
theorem qML (n:Nat) (s0:LU) (o0:Lab) (as1:List Bool):evFnP qkU n qum qMK [db s0 o0,.adr (.arr 256 .bool) as1]=qsQ n s0 as1:=by
 unfold qsQ;rw [show qgG (qfa n) n=(fun s0 as1=>evLP qkU n (sub qum [1,0,0,0]) (qkV n) (qoT s0 as1)) from by
  funext s0 as1;refine Eq.trans ?_ (qxr (qkV n) n s0 as1).symm;rw [show (qis (qkV n))=(qfa n) from by
   funext s0;exact qoU n s0]
  all_goals kernel_rfl]
 kernel_rfl
theorem qxs:qf G Tryz.prog 126 s_z126:=by
 refine sQ (E:=qkU) (c:=qum) rfl (fun w S hg=>(qa (qmV w S hg) qd)) Tryz.func126 ?_;intro avs r h;unfold s_z126 at h;split at h
 ·obtain ⟨hp,rfl⟩:=yj h;obtain ⟨n,hn⟩:=qFH _ _ hp;exact ⟨n,_,(qML n _ _ _).trans hn,.inl rfl⟩
 ·cases h
def qkW:EnvP:=eQ [(134,s_z134)] 23 (some [4]) (fun x=>if x=1 then some [0,1] else none) (fun x=>if x=0 then some [0] else if x=1 then some [0,1] else none) nP
def qun:Code:=cO Tryz.f127
def qMM:Array ResultVar:=Tryz.f127.results
noncomputable def qit (K:Ex→Fr→OA):=fun s0=>K (.exit 0) (frOf [(0,da s0)])
def qkX (n:Nat):Ex→Fr→OA:=qw 0 (qkW.cutb 0) (kSeq (evCP qkW (evLP qkW n) (sub qun [1,1])) (kFnP qkW qMM))
def qoV (s0:LU) (as1:List Bool):Fr:=frOf [(0,da s0),(1,(.adr (.arr 256 .bool) as1))]
theorem qxt (K:Ex→Fr→OA):∀ (n:Nat) (s0:LU) (as1:List Bool),evLP qkW n (sub qun [1,0,0,0]) K (qoV s0 as1)=qgH (qit K) n s0 as1:=by
 intro n;induction n with
 | zero=>intros; rfl
 | succ n IH =>
 intro s0 as1;have ih:(fun s0 as1=>evLP qkW n (sub qun [1,0,0,0]) K (qoV s0 as1))=qgH (qit K) n:=by
  funext s0 as1;exact IH s0 as1
 show _=qhx (qit K) (qgH (qit K) n) n s0 as1;rw [← ih];kernel_rfl
theorem qoW (n:Nat) (s0:LU):(qkX n) (.exit 0) (frOf [(0,da s0)])=qhy n s0:=by
 kernel_rfl
theorem qMN (n:Nat) (s0:LU) (o0:Lab) (as1:List Bool):evFnP qkW n qun qMM [db s0 o0,.adr (.arr 256 .bool) as1]=qsR n s0 as1:=by
 unfold qsR;rw [show qgH (qhy n) n=(fun s0 as1=>evLP qkW n (sub qun [1,0,0,0]) (qkX n) (qoV s0 as1)) from by
  funext s0 as1;refine Eq.trans ?_ (qxt (qkX n) n s0 as1).symm;rw [show (qit (qkX n))=(qhy n) from by
   funext s0;exact qoW n s0]
  all_goals kernel_rfl]
 kernel_rfl
theorem qxu:qf G Tryz.prog 127 s_z127:=by
 refine sQ (E:=qkW) (c:=qun) rfl (fun w S hg=>(qa (qmV w S hg) qd)) Tryz.func127 ?_;intro avs r h;unfold s_z127 at h;split at h
 ·obtain ⟨hp,rfl⟩:=yj h;obtain ⟨n,hn⟩:=qFG _ _ hp;exact ⟨n,_,(qMN n _ _ _).trans hn,.inl rfl⟩
 ·cases h
def qMO:EnvP:=⟨⟨tiOf tis,fnsOf [(123,s_z123),(124,s_z124),(125,s_z125),(126,s_z126),(127,s_z127),(128,s_z128),(129,s_z129)],cnsOf [],[],42,(fun _=>none),(fun _=>none),some [1000004]⟩,fun _=>none,fun _=>none,(fun x=>if x=500009 then [5] else []),fun _=>none,fun _=>none,fun _=>none,fun _=>none⟩
def qMP:Code:=cO Tryz.f112
def qPG:Array ResultVar:=Tryz.f112.results
theorem qMQ (n:Nat) (s0:LU) (o0:Lab) (cutset1:LU) (o1:Lab):evFnP qMO n qMP qPG [db s0 o0,df cutset1 o1]=qzy n s0 cutset1:=by
 kernel_rfl
theorem qxv:qf G Tryz.prog 112 s_z112:=by
 refine qM G_stays (E:=qMO) (fn:=Tryz.f112) (c:=qMP) (qo rfl qcq) (fun w S hg=>⟨⟨(qa (qxm w S hg) (qa (qxo w S hg) (qa (qxq w S hg) (qa (qxs w S hg) (qa (qxu w S hg) (qa (qxh w S hg) (qa (qxi w S hg) qd))))))),fun f sp h=>qaN f sp h w S⟩,qaU w S hg,(fun _ _ h=>by cases h),(fun f sp h=>qbz f sp h),(fun f it h=>qbA f it h),(fun t kt vt h=>qaP t kt vt h)⟩) follows Tryz.func112 (by kernel_rfl) (by kernel_rfl) (by kernel_rfl) ?_;intro avs r h;unfold s_z112 at h;split at h
 ·obtain ⟨hp,rfl⟩:=yj h;obtain ⟨n,hn⟩:=qFI _ _ hp;exact ⟨n,_,(qMQ n _ _ _ _).trans hn,.inl rfl⟩
 ·cases h
def E_z92:EnvP:=eQ [(43,s_z43),(112,s_z112)] 6 (some [2]) nC nC nP
def C_z92:Code:=cO Tryz.f92
def R_z92:Array ResultVar:=Tryz.f92.results
theorem qPH (n:Nat) (s0:LU) (o0:Lab):evFnP E_z92 n C_z92 R_z92 [db s0 o0]=qJA n s0:=by
 kernel_rfl
theorem qCw:qf G Tryz.prog 92 s_z92:=by
 refine sQ (E:=E_z92) (c:=C_z92) rfl (fun w S hg=>(qa (qeS w S hg) (qa (qxv w S hg) qd))) Tryz.func92 ?_;intro avs r h;unfold s_z92 at h;split at h
 ·obtain ⟨hp,rfl⟩:=yj h;obtain ⟨n,hn⟩:=qLs _ hp;exact ⟨n,_,(qPH n _ _).trans hn,.inl rfl⟩
 ·cases h
def E_z67:EnvP:=eQ [(91,s_z91),(92,s_z92)] 13 (some [2]) nC nC nP
def C_z67:Code:=cO Tryz.f67
def R_z67:Array ResultVar:=Tryz.f67.results
theorem qPI (n:Nat) (s0:LU) (o0:Lab):evFnP E_z67 n C_z67 R_z67 [db s0 o0]=qJB n s0:=by
 kernel_rfl
theorem qCx:qf G Tryz.prog 67 s_z67:=by
 refine sQ (E:=E_z67) (c:=C_z67) rfl (fun w S hg=>(qa (qrb w S hg) (qa (qCw w S hg) qd))) Tryz.func67 ?_;intro avs r h;unfold s_z67 at h;split at h
 ·obtain ⟨hp,rfl⟩:=yj h;obtain ⟨n,hn⟩:=qLC _ hp;exact ⟨n,_,(qPI n _ _).trans hn,.inl rfl⟩
 ·cases h
def E_z47:EnvP:=⟨⟨tiOf tis,fnsOf [(28,s_z28),(67,s_z67)],cnsOf [],[],18,(fun _=>none),(fun _=>none),some [2,3]⟩,fun _=>none,fun _=>none,fun _=>[],fun _=>none,(fun x=>if x=66 then some s_z66 else none),fun _=>none,(fun x=>if x=97 then some (9,3) else none)⟩
def C_z47:Code:=cO Tryz.f47
def R_z47:Array ResultVar:=Tryz.f47.results
theorem qPJ (n:Nat) (s0:LU) (o0:Lab):evFnP E_z47 n C_z47 R_z47 [db s0 o0]=qJC n s0:=by
 kernel_rfl
theorem qCy:qf G Tryz.prog 47 s_z47:=by
 refine qM G_stays (E:=E_z47) (fn:=Tryz.f47) (c:=C_z47) (qo rfl qcq) (fun w S hg=>⟨⟨(qa (qhk w S hg) (qa (qCx w S hg) qd)),fun f sp h=>qaN f sp h w S⟩,qaU w S hg,(fun _ _ h=>by cases h),(fun f sp h=>(qHi (qCv w S hg) qbz) f sp h),(fun f it h=>qbA f it h),(fun t kt vt h=>(qon (by kernel_rfl) qaP) t kt vt h)⟩) follows Tryz.func47 (by kernel_rfl) (by kernel_rfl) (by kernel_rfl) ?_;intro avs r h;unfold s_z47 at h;split at h
 ·obtain ⟨hp,rfl⟩:=yj h;obtain ⟨n,hn⟩:=qLL _ hp;exact ⟨n,_,(qPJ n _ _).trans hn,.inl rfl⟩
 ·cases h
def E_z94:EnvP:=eQ [] 9 (some [11]) nC nC (fun x=>if x=5 then some (.osl 5 .byte) else if x=8 then some (.osl 5 .byte) else none)
def C_z94:Code:=cO Tryz.f94
def R_z94:Array ResultVar:=Tryz.f94.results
theorem qPK (n:Nat) (c0:UInt8) (o0:Lab) (x1:Bool) (o1:Lab) (x2:LU):evFnM E_z94 n C_z94 R_z94 [dp c0 o0,dh x1 o1,.pbox (.osl 5 .byte) x2 none]=qJD n c0 x1 x2:=by
 kernel_rfl
theorem qCz:qmx G Tryz.prog 94 s_z94:=by
 refine qaF G_stays (E:=E_z94) (fn:=Tryz.f94) (c:=C_z94) (qo rfl qcq) (fun w S hg=>⟨⟨qd,fun f sp h=>qaN f sp h w S⟩,qaU w S hg,(fun _ _ h=>by cases h),(fun f sp h=>qbz f sp h),(fun f it h=>qbA f it h),(fun t kt vt h=>qaP t kt vt h)⟩) follows Tryz.func94 (by kernel_rfl) (by kernel_rfl) (by kernel_rfl) ?_;intro avs r h;unfold s_z94 at h;split at h
 ·obtain ⟨hp,rfl⟩:=yj h;obtain ⟨n,hn⟩:=qIQ _ _ _ hp;exact ⟨n,(qPK n _ _ _ _ _).trans hn⟩
 ·cases h
def qMR:EnvP:=eQ [] 46 (some [2]) nC (fun x=>if x=0 then some [3] else none) nP
def qMS:Code:=cO Tryz.f119
def qPL:Array ResultVar:=Tryz.f119.results
theorem qMT (n:Nat) (c0:UInt8) (o0:Lab):evFnP qMR n qMS qPL [dp c0 o0]=qzB n c0:=by
 kernel_rfl
theorem qxw:qf G Tryz.prog 119 s_z119:=by
 refine sQ (E:=qMR) (c:=qMS) rfl (fun w S hg=>qd) Tryz.func119 ?_;intro avs r h;unfold s_z119 at h;split at h <;> cases h
 obtain ⟨n,hn⟩:=qFl _;exact ⟨n,_,(qMT n _ _).trans hn,.inl rfl⟩
def qMU:EnvP:=eQ [(142,s_z142)] 8 (some [4]) nC nC nP
def qMV:Code:=cO Tryz.f139
def qPM:Array ResultVar:=Tryz.f139.results
theorem qMW (n:Nat) (s0:LU) (o0:Lab) (c1:UInt8) (o1:Lab):evFnP qMU n qMV qPM [df s0 o0,dp c1 o1]=qGG n s0 c1:=by
 kernel_rfl
theorem qxx:qf G Tryz.prog 139 s_z139:=by
 refine sQ (E:=qMU) (c:=qMV) rfl (fun w S hg=>(qa (qxf w S hg) qd)) Tryz.func139 ?_;intro avs r h;unfold s_z139 at h;split at h <;> cases h
 obtain ⟨n,hn⟩:=qFm _ _;exact ⟨n,_,(qMW n _ _ _ _).trans hn,.inl rfl⟩
def qMX:EnvP:=eQ [(139,s_z139)] 8 (some [4]) nC nC nP
def qMY:Code:=cO Tryz.f133
def qPN:Array ResultVar:=Tryz.f133.results
theorem qMZ (n:Nat) (s0:LU) (o0:Lab) (c1:UInt8) (o1:Lab):evFnP qMX n qMY qPN [df s0 o0,dp c1 o1]=qGH n s0 c1:=by
 kernel_rfl
theorem qxy:qf G Tryz.prog 133 s_z133:=by
 refine sQ (E:=qMX) (c:=qMY) rfl (fun w S hg=>(qa (qxx w S hg) qd)) Tryz.func133 ?_;intro avs r h;unfold s_z133 at h;split at h <;> cases h
 obtain ⟨n,hn⟩:=qFn _ _;exact ⟨n,_,(qMZ n _ _ _ _).trans hn,.inl rfl⟩
def qNa:EnvP:=eQ [(133,s_z133)] 9 (some [4]) nC nC nP
def qNb:Code:=cO Tryz.f120
def qPO:Array ResultVar:=Tryz.f120.results
theorem qNc (n:Nat) (s0:LU) (o0:Lab) (c1:UInt8) (o1:Lab):evFnP qNa n qNb qPO [df s0 o0,dp c1 o1]=qGI n s0 c1:=by
 kernel_rfl
theorem qxz:qf G Tryz.prog 120 s_z120:=by
 refine sQ (E:=qNa) (c:=qNb) rfl (fun w S hg=>(qa (qxy w S hg) qd)) Tryz.func120 ?_;intro avs r h;unfold s_z120 at h;split at h <;> cases h
 obtain ⟨n,hn⟩:=qFo _ _;exact ⟨n,_,(qNc n _ _ _ _).trans hn,.inl rfl⟩
def E_z99:EnvP:=eQ [(119,s_z119),(120,s_z120)] 35 (some [2]) nC nC nP
def C_z99:Code:=cO Tryz.f99
def R_z99:Array ResultVar:=Tryz.f99.results
theorem qPP (n:Nat) (c0:UInt8) (o0:Lab):evFnP E_z99 n C_z99 R_z99 [dp c0 o0]=qJE n c0:=by
 kernel_rfl
theorem qCA:qf G Tryz.prog 99 s_z99:=by
 refine sQ (E:=E_z99) (c:=C_z99) rfl (fun w S hg=>(qa (qxw w S hg) (qa (qxz w S hg) qd))) Tryz.func99 ?_;intro avs r h;unfold s_z99 at h;split at h <;> cases h
 obtain ⟨n,hn⟩:=qKq _;exact ⟨n,_,(qPP n _ _).trans hn,.inl rfl⟩
def E_z77:EnvP:=eQ [(99,s_z99)] 10 (some [4]) nC nC nP
def C_z77:Code:=cO Tryz.f77
def R_z77:Array ResultVar:=Tryz.f77.results
theorem qPQ (n:Nat) (c0:UInt8) (o0:Lab) (kinds1:Int) (o1:Lab):evFnP E_z77 n C_z77 R_z77 [dp c0 o0,de kinds1 o1]=qOG n c0 kinds1:=by
 kernel_rfl
theorem qhl:qf G Tryz.prog 77 s_z77:=by
 refine sQ (E:=E_z77) (c:=C_z77) rfl (fun w S hg=>(qa (qCA w S hg) qd)) Tryz.func77 ?_;intro avs r h;unfold s_z77 at h;split at h <;> cases h
 obtain ⟨n,hn⟩:=qKr _ _;exact ⟨n,_,(qPQ n _ _ _ _).trans hn,.inl rfl⟩
def qNd:EnvP:=eQ [(44,s_z44),(77,s_z77)] 23 (some [2,3]) nC (fun x=>if x=0 then some [] else none) nP
def qNe:Code:=cO Tryz.f138
def qPR:Array ResultVar:=Tryz.f138.results
theorem qNf (n:Nat) (c0:UInt8) (o0:Lab):evFnP qNd n qNe qPR [dp c0 o0]=qzF n c0:=by
 kernel_rfl
theorem qxA:qf G Tryz.prog 138 s_z138:=by
 refine sQ (E:=qNd) (c:=qNe) rfl (fun w S hg=>(qa (qqX w S hg) (qa (qhl w S hg) qd))) Tryz.func138 ?_;intro avs r h;unfold s_z138 at h;split at h <;> cases h
 obtain ⟨n,hn⟩:=qFJ _;exact ⟨n,_,(qNf n _ _).trans hn,.inl rfl⟩
def qNg:EnvP:=eQ [(138,s_z138)] 31 (some [4,5]) nC nC nP
def qNh:Code:=cO Tryz.f130
def qPS:Array ResultVar:=Tryz.f130.results
theorem qNi (n:Nat) (a0:UInt8) (o0:Lab) (b1:UInt8) (o1:Lab):evFnP qNg n qNh qPS [dp a0 o0,dp b1 o1]=qzG n a0 b1:=by
 kernel_rfl
theorem qxB:qf G Tryz.prog 130 s_z130:=by
 refine sQ (E:=qNg) (c:=qNh) rfl (fun w S hg=>(qa (qxA w S hg) qd)) Tryz.func130 ?_;intro avs r h;unfold s_z130 at h;split at h <;> cases h
 obtain ⟨n,hn⟩:=qFK _ _;exact ⟨n,_,(qNi n _ _ _ _).trans hn,.inl rfl⟩
def qNj:EnvP:=eQ [(130,s_z130)] 38 (some [6,7]) nC nC nP
def qNk:Code:=cO Tryz.f113
def qPT:Array ResultVar:=Tryz.f113.results
theorem qNl (n:Nat) (s0:LU) (o0:Lab) (at1:Int) (o1:Lab) (sign2:UInt8) (o2:Lab):evFnP qNj n qNk qPT [db s0 o0,de at1 o1,dp sign2 o2]=qzH n s0 at1 sign2:=by
 kernel_rfl
theorem qxC:qf G Tryz.prog 113 s_z113:=by
 refine sQ (E:=qNj) (c:=qNk) rfl (fun w S hg=>(qa (qxB w S hg) qd)) Tryz.func113 ?_;intro avs r h;unfold s_z113 at h;split at h
 ·obtain ⟨hp,rfl⟩:=yj h;obtain ⟨n,hn⟩:=qFL _ _ _ hp;exact ⟨n,_,(qNl n _ _ _ _ _ _).trans hn,.inl rfl⟩
 ·cases h
def E_z93:EnvP:=⟨⟨tiOf tis,fnsOf [(113,s_z113)],cnsOf [],[],32,(fun x=>if x=1 then some [0,1,4,33] else none),(fun x=>if x=0 then some [33] else if x=1 then some [0,1,4,33] else none),some [33]⟩,fun _=>none,fun _=>none,fun _=>[],(fun x=>if x=94 then some s_z94 else none),fun _=>none,fun _=>none,fun _=>none⟩
def C_z93:Code:=cO Tryz.f93
def R_z93:Array ResultVar:=Tryz.f93.results
noncomputable def qmW (K:Ex→Fr→OA):=fun s33=>K (.exit 0) (frOf [(33,(.pbox (.osl 5 .byte) s33 none))])
def qrf (s0:LU) (f1:LU):Ex→Fr→OA:=qw 0 (E_z93.cutb 0) (kFnM E_z93 R_z93 [db s0 none,.fn 94 [.pbox (.osl 5 .byte) f1 none]])
def qxD (s0:LU) (at4:Int) (s33:LU):Fr:=frOf [(0,da s0),(1,(.padr 33 [.clo 94 false])),(4,dc at4),(33,(.pbox (.osl 5 .byte) s33 none))]
theorem qoX (K:Ex→Fr→OA):∀ (n:Nat) (s0:LU) (at4:Int) (s33:LU),evLP E_z93 n (sub C_z93 [1,0,0]) K (qxD s0 at4 s33)=qcG (qmW K) n s0 at4 s33:=by
 intro n;induction n with
 | zero=>intros; rfl
 | succ n IH =>
 intro s0 at4 s33;have ih:(fun s0 at4 s33=>evLP E_z93 n (sub C_z93 [1,0,0]) K (qxD s0 at4 s33))=qcG (qmW K) n:=by
  funext s0 at4 s33;exact IH s0 at4 s33
 show _=qdB (qmW K) (qcG (qmW K) n) n s0 at4 s33;rw [← ih];kernel_rfl
theorem qkY (s0:LU) (f1:LU) (n:Nat) (s33:LU):(qrf s0 f1) (.exit 0) (frOf [(33,(.pbox (.osl 5 .byte) s33 none))])=qcs n s33:=by
 kernel_rfl
theorem qCB (n:Nat) (s0:LU) (o0:Lab) (f1:LU):evFnM E_z93 n C_z93 R_z93 [db s0 o0,.fn 94 [.pbox (.osl 5 .byte) f1 none]]=qly n s0 f1:=by
 unfold qly;rw [show qcG (qcs n) n=(fun s0 at4 s33=>evLP E_z93 n (sub C_z93 [1,0,0]) (qrf s0 f1) (qxD s0 at4 s33)) from by
  funext s0 at4 s33;refine Eq.trans ?_ (qoX (qrf s0 f1) n s0 at4 s33).symm;rw [show (qmW (qrf s0 f1))=(qcs n) from by
   funext s33;exact qkY s0 f1 n s33]
  all_goals kernel_rfl]
 kernel_rfl
theorem qCC:qmx G Tryz.prog 93 s_z93:=by
 refine qaF G_stays (E:=E_z93) (fn:=Tryz.f93) (c:=C_z93) (qo rfl qcq) (fun w S hg=>⟨⟨(qa (qxC w S hg) qd),fun f sp h=>qaN f sp h w S⟩,qaU w S hg,(fun f sp h=>(qea (qCz w S hg) qhF) f sp h),(fun _ _ h=>by cases h),(fun _ _ h=>by cases h),(fun t kt vt h=>qaP t kt vt h)⟩) follows Tryz.func93 (by kernel_rfl) (by kernel_rfl) (by kernel_rfl) ?_;intro avs r h;unfold s_z93 at h;split at h
 ·obtain ⟨hp,rfl⟩:=yj h;obtain ⟨n,hn⟩:=qva _ _ hp;exact ⟨n,(qCB n _ _ _).trans hn⟩
 ·cases h
end
end Go.Av
