import Derived.Test.YtmdadpepccbpcaaGreatDoorPoEvB
import Derived.Test.YtmdadpepccbpcaaGreatDoorPoD
import Derived.Test.YtmdadpepccbpcaaGreatDoorAvE
import Derived.Test.YtmdadpepccbpcaaGreatDoorProg
import Derived.KernelRfl
namespace Go.Av
set_option linter.unusedSimpArgs false
set_option linter.unusedVariables false
section
noncomputable section
open Go.Proofs
set_option maxRecDepth 100000
set_option linter.unusedVariables false
def E_z79:EnvP:=⟨⟨tiOf tis,fnsOf [(139,s_z139)],cnsOf [],[],18,(fun _=>none),(fun _=>none),some [2]⟩,(fun x=>if x=1 then some (.leaf (.sl .byte)) else none),fun _=>none,fun _=>[],(fun x=>if x=140 then some s_z140 else none),fun _=>none,fun _=>none,fun _=>none⟩
def C_z79:Code:=cO Tryz.f79
def R_z79:Array ResultVar:=Tryz.f79.results
theorem qMU (n:Nat) (s0:LU) (o0:Lab):evFnP E_z79 n C_z79 R_z79 [db s0 o0]=qFJ n s0:=by
 kernel_rfl
theorem qAn:qe G Tryz.prog 79 s_z79:=by
 refine qav G_stays (E:=E_z79) (fn:=Tryz.f79) (c:=C_z79) (qd rfl qZ) (fun w S hg=>⟨⟨(qa (qmz w S hg) qc),fun f sp h=>qx f sp h w S⟩,qy w S hg,(fun f sp h=>(qju (qvD w S hg) qtq) f sp h),(fun f sp h=>qC f sp h),(fun f it h=>qD f it h),(fun t kt vt h=>qz t kt vt h)⟩) follows Tryz.func79 (by kernel_rfl) (by kernel_rfl) (by kernel_rfl) ?_;intro avs r h;unfold s_z79 at h;split at h
 ·obtain ⟨hp,rfl⟩:=yj h;obtain ⟨n,hn⟩:=qFp _ hp;exact ⟨n,_,(qMU n _ _).trans hn,.inl rfl⟩
 ·cases h
def E_z82:EnvP:=eQ [(143,s_z143)] 23 (some [4,1000005,6]) nC nC nP
def C_z82:Code:=cO Tryz.f82
def R_z82:Array ResultVar:=Tryz.f82.results
theorem qMV (n:Nat) (s0:LU) (o0:Lab) (sep1:LU) (o1:Lab):evFnP E_z82 n C_z82 R_z82 [db s0 o0,db sep1 o1]=qFK n s0 sep1:=by
 kernel_rfl
theorem qAo:qe G Tryz.prog 82 s_z82:=by
 refine sQ (E:=E_z82) (c:=C_z82) rfl (fun w S hg=>(qa (qmr w S hg) qc)) Tryz.func82 ?_;intro avs r h;unfold s_z82 at h;split at h
 ·obtain ⟨hp,rfl⟩:=yj h;obtain ⟨n,hn⟩:=qGw _ _ hp;exact ⟨n,_,(qMV n _ _ _ _).trans hn,.inl rfl⟩
 ·cases h
def qkn:EnvP:=eQ [(82,s_z82),(153,s_z153)] 25 (some [2]) (fun x=>if x=2 then some [0,3] else none) (fun x=>if x=0 then some [3] else if x=1 then some [0,3] else none) nP
def qsu:Code:=cO Tryz.f142
def qJi:Array ResultVar:=Tryz.f142.results
noncomputable def qhH (K:Ex→Fr→OA):=fun out3=>K (.exit 0) (frOf [(3,(.dat (.sl (.sl .byte)) out3 (some (3,24))))])
def qko (n:Nat):Ex→Fr→OA:=qo 0 (qkn.cutb 0) (kSeq (evCP qkn (evLP qkn n) (sub qsu [1,1,1])) (kFnP qkn qJi))
def qog (s0:LU) (out3:List LU):Fr:=frOf [(0,da s0),(3,(.dat (.sl (.sl .byte)) out3 (some (3,24))))]
theorem qvE (K:Ex→Fr→OA):∀ (n:Nat) (s0:LU) (out3:List LU),evLP qkn n (sub qsu [1,1,0,0,0]) K (qog s0 out3)=qeJ (qhH K) n s0 out3:=by
 intro n;induction n with
 | zero=>intros; rfl
 | succ n IH =>
 intro s0 out3;have ih:(fun s0 out3=>evLP qkn n (sub qsu [1,1,0,0,0]) K (qog s0 out3))=qeJ (qhH K) n:=by
  funext s0 out3;exact IH s0 out3
 show _=qgP (qhH K) (qeJ (qhH K) n) n s0 out3;rw [← ih];kernel_rfl
theorem qoh (n:Nat) (out3:List LU):(qko n) (.exit 0) (frOf [(3,(.dat (.sl (.sl .byte)) out3 (some (3,24))))])=qgQ n out3:=by
 kernel_rfl
theorem qJj (n:Nat) (s0:LU) (o0:Lab):evFnP qkn n qsu qJi [db s0 o0]=qqX n s0:=by
 unfold qqX;rw [show qeJ (qgQ n) n=(fun s0 out3=>evLP qkn n (sub qsu [1,1,0,0,0]) (qko n) (qog s0 out3)) from by
  funext s0 out3;refine Eq.trans ?_ (qvE (qko n) n s0 out3).symm;rw [show (qhH (qko n))=(qgQ n) from by
   funext out3;exact qoh n out3]
  all_goals kernel_rfl]
 kernel_rfl
theorem qvF:qe G Tryz.prog 142 s_z142:=by
 refine sQ (E:=qkn) (c:=qsu) rfl (fun w S hg=>(qa (qAo w S hg) (qa (qhF w S hg) qc))) Tryz.func142 ?_;intro avs r h;unfold s_z142 at h;split at h
 ·obtain ⟨hp,rfl⟩:=yj h;obtain ⟨n,hn⟩:=qBv _ hp;exact ⟨n,_,(qJj n _ _).trans hn,.inl rfl⟩
 ·cases h
def E_z81:EnvP:=eQ [(142,s_z142)] 19 (some [2]) (fun x=>if x=3 then some [3,7,8,9] else none) (fun x=>if x=0 then some [3] else if x=1 then some [3,7,8,9] else none) nP
def C_z81:Code:=cO Tryz.f81
def R_z81:Array ResultVar:=Tryz.f81.results
noncomputable def qmA (K:Ex→Fr→OA):=fun n3=>K (.exit 0) (frOf [(3,dc n3)])
def qqs (n:Nat):Ex→Fr→OA:=qo 0 (E_z81.cutb 0) (kSeq (evCP E_z81 (evLP E_z81 n) (sub C_z81 [1,1,1])) (kFnP E_z81 R_z81))
def qvG (n3:Int) (s7:List LU) (s8:Int) (s9:Int):Fr:=frOf [(3,dc n3),(7,(.dat (.sl (.sl .byte)) s7 (some (7,24)))),(8,dc s8),(9,dc s9)]
theorem qAp (K:Ex→Fr→OA):∀ (n:Nat) (n3:Int) (s7:List LU) (s8:Int) (s9:Int),evLP E_z81 n (sub C_z81 [1,1,0,1,0,0]) K (qvG n3 s7 s8 s9)=qld (qmA K) n n3 s7 s8 s9:=by
 intro n;induction n with
 | zero=>intros; rfl
 | succ n IH =>
 intro n3 s7 s8 s9;have ih:(fun n3 s7 s8 s9=>evLP E_z81 n (sub C_z81 [1,1,0,1,0,0]) K (qvG n3 s7 s8 s9))=qld (qmA K) n:=by
  funext n3 s7 s8 s9;exact IH n3 s7 s8 s9
 show _=qfB (qmA K) (qld (qmA K) n) n n3 s7 s8 s9;rw [← ih];kernel_rfl
theorem qsv (n:Nat) (n3:Int):(qqs n) (.exit 0) (frOf [(3,dc n3)])=qic n n3:=by
 kernel_rfl
theorem qMW (n:Nat) (s0:LU) (o0:Lab):evFnP E_z81 n C_z81 R_z81 [db s0 o0]=qBE n s0:=by
 unfold qBE;rw [show qld (qic n) n=(fun n3 s7 s8 s9=>evLP E_z81 n (sub C_z81 [1,1,0,1,0,0]) (qqs n) (qvG n3 s7 s8 s9)) from by
  funext n3 s7 s8 s9;refine Eq.trans ?_ (qAp (qqs n) n n3 s7 s8 s9).symm;rw [show (qmA (qqs n))=(qic n) from by
   funext n3;exact qsv n n3]
  all_goals kernel_rfl]
 kernel_rfl
theorem qAq:qe G Tryz.prog 81 s_z81:=by
 refine sQ (E:=E_z81) (c:=C_z81) rfl (fun w S hg=>(qa (qvF w S hg) qc)) Tryz.func81 ?_;intro avs r h;unfold s_z81 at h;split at h
 ·obtain ⟨hp,rfl⟩:=yj h;obtain ⟨n,hn⟩:=qFm _ hp;exact ⟨n,_,(qMW n _ _).trans hn,.inl rfl⟩
 ·cases h
def E_z37:EnvP:=eQ [(78,s_z78),(79,s_z79),(80,s_z80),(81,s_z81)] 43 (some [4]) (fun x=>if x=4 then some [0,1,5,6,9,10,11] else none) (fun x=>if x=0 then some [0,1,6] else if x=1 then some [0,1,5,6,9,10,11] else if x=2 then some [] else none) nP
def C_z37:Code:=cO Tryz.f37
def R_z37:Array ResultVar:=Tryz.f37.results
noncomputable def X_z78 (K:Ex→Fr→OA):=fun s0 most1 above6=>K (.exit 0) (frOf [(0,da s0),(1,dc most1),(6,dg above6)])
def qqt (n:Nat):Ex→Fr→OA:=qo 0 (E_z37.cutb 0) (kSeq (evCP E_z37 (evLP E_z37 n) (sub C_z37 [1,1,1,1])) (kFnP E_z37 R_z37))
def qvH (s0:LU) (most1:Int) (above6:Bool) (s9:LU) (s10:Int) (s11:Int):Fr:=frOf [(0,da s0),(1,dc most1),(5,(.fn 78 [])),(6,dg above6),(9,da s9),(10,dc s10),(11,dc s11)]
theorem qAr (K:Ex→Fr→OA):∀ (n:Nat) (s0:LU) (most1:Int) (above6:Bool) (s9:LU) (s10:Int) (s11:Int),evLP E_z37 n (sub C_z37 [1,1,1,0,1,0,0]) K (qvH s0 most1 above6 s9 s10 s11)=qle (X_z78 K) n s0 most1 above6 s9 s10 s11:=by
 intro n;induction n with
 | zero=>intros; rfl
 | succ n IH =>
 intro s0 most1 above6 s9 s10 s11;have ih:(fun s0 most1 above6 s9 s10 s11=>evLP E_z37 n (sub C_z37 [1,1,1,0,1,0,0]) K (qvH s0 most1 above6 s9 s10 s11))=qle (X_z78 K) n:=by
  funext s0 most1 above6 s9 s10 s11;exact IH s0 most1 above6 s9 s10 s11
 show _=qfC (X_z78 K) (qle (X_z78 K) n) n s0 most1 above6 s9 s10 s11;rw [← ih];kernel_rfl
theorem qsw (n:Nat) (s0:LU) (most1:Int) (above6:Bool):(qqt n) (.exit 0) (frOf [(0,da s0),(1,dc most1),(6,dg above6)])=qfD n s0 most1 above6:=by
 kernel_rfl
theorem qMX (n:Nat) (s0:LU) (o0:Lab) (most1:Int) (o1:Lab):evFnP E_z37 n C_z37 R_z37 [db s0 o0,de most1 o1]=qFL n s0 most1:=by
 unfold qFL;rw [show qle (qfD n) n=(fun s0 most1 above6 s9 s10 s11=>evLP E_z37 n (sub C_z37 [1,1,1,0,1,0,0]) (qqt n) (qvH s0 most1 above6 s9 s10 s11)) from by
  funext s0 most1 above6 s9 s10 s11;refine Eq.trans ?_ (qAr (qqt n) n s0 most1 above6 s9 s10 s11).symm;rw [show (X_z78 (qqt n))=(qfD n) from by
   funext s0 most1 above6;exact qsw n s0 most1 above6]
  all_goals kernel_rfl]
 kernel_rfl
theorem qAs:qe G Tryz.prog 37 s_z37:=by
 refine sQ (E:=E_z37) (c:=C_z37) rfl (fun w S hg=>(qa (qAm w S hg) (qa (qAn w S hg) (qa (qAf w S hg) (qa (qAq w S hg) qc))))) Tryz.func37 ?_;intro avs r h;unfold s_z37 at h;split at h
 ·obtain ⟨hp,rfl⟩:=yj h;obtain ⟨n,hn⟩:=qFr _ _ hp;exact ⟨n,_,(qMX n _ _ _ _).trans hn,.inl rfl⟩
 ·cases h
def E_z60:EnvP:=eQ [(37,s_z37)] 7 (some [2,3]) nC nC nP
def C_z60:Code:=cO Tryz.f60
def R_z60:Array ResultVar:=Tryz.f60.results
theorem qMY (n:Nat) (s0:LU) (o0:Lab):evFnP E_z60 n C_z60 R_z60 [db s0 o0]=qFM n s0:=by
 kernel_rfl
theorem qAt:qe G Tryz.prog 60 s_z60:=by
 refine sQ (E:=E_z60) (c:=C_z60) rfl (fun w S hg=>(qa (qAs w S hg) qc)) Tryz.func60 ?_;intro avs r h;unfold s_z60 at h;split at h
 ·obtain ⟨hp,rfl⟩:=yj h;obtain ⟨n,hn⟩:=qFx _ hp;exact ⟨n,_,(qMY n _ _).trans hn,.inl rfl⟩
 ·cases h
def qJk:EnvP:=eQ [] 25 (some [25]) nC nC (fun x=>if x=11 then some (.osl 5 .byte) else if x=19 then some (.osl 5 .byte) else none)
def qJl:Code:=cO Tryz.f121
def qMZ:Array ResultVar:=Tryz.f121.results
theorem qJm (n:Nat) (p0:LU×(Int×Unit)) (soft1:Bool) (o1:Lab):evFnM qJk n qJl qMZ [.pbox (.ppair (.osl 5 .byte) (.ppair (.leaf (.int .i64)) (.leaf .unit))) p0 none,dh soft1 o1]=qxA n p0 soft1:=by
 kernel_rfl
theorem qmB:qrV G Tryz.prog 121 s_z121:=by
 refine qcm G_stays (E:=qJk) (fn:=Tryz.f121) (c:=qJl) (qd rfl qZ) (fun w S hg=>⟨⟨qc,fun f sp h=>qx f sp h w S⟩,qy w S hg,(fun _ _ h=>by cases h),(fun f sp h=>qC f sp h),(fun f it h=>qD f it h),(fun t kt vt h=>qz t kt vt h)⟩) follows Tryz.func121 (by kernel_rfl) (by kernel_rfl) (by kernel_rfl) ?_;intro avs r h;unfold s_z121 at h;split at h
 ·obtain ⟨hp,rfl⟩:=yj h;obtain ⟨n,hn⟩:=qDd _ _ hp;exact ⟨n,(qJm n _ _ _).trans hn⟩
 ·cases h
def qJn:EnvP:=⟨⟨tiOf tis,fnsOf [],cnsOf [],[],32,(fun _=>none),(fun _=>none),some [32]⟩,(fun x=>if x=20 then some (.osl 5 .byte) else none),fun _=>none,fun _=>[],(fun x=>if x=121 then some s_z121 else none),fun _=>none,fun _=>none,fun _=>none⟩
def qJo:Code:=cO Tryz.f119
def qNa:Array ResultVar:=Tryz.f119.results
theorem qJp (n:Nat) (p0:LU×(Int×Unit)) (u1:LU) (o1:Lab):evFnM qJn n qJo qNa [.pbox (.ppair (.osl 5 .byte) (.ppair (.leaf (.int .i64)) (.leaf .unit))) p0 none,db u1 o1]=qxB n p0 u1:=by
 kernel_rfl
theorem qvI:qrV G Tryz.prog 119 s_z119:=by
 refine qcm G_stays (E:=qJn) (fn:=Tryz.f119) (c:=qJo) (qd rfl qZ) (fun w S hg=>⟨⟨qc,fun f sp h=>qx f sp h w S⟩,qy w S hg,(fun f sp h=>(qju (qmB w S hg) qtq) f sp h),(fun f sp h=>qC f sp h),(fun f it h=>qD f it h),(fun t kt vt h=>qz t kt vt h)⟩) follows Tryz.func119 (by kernel_rfl) (by kernel_rfl) (by kernel_rfl) ?_;intro avs r h;unfold s_z119 at h;split at h
 ·obtain ⟨hp,rfl⟩:=yj h;obtain ⟨n,hn⟩:=qDe _ _ hp;exact ⟨n,(qJp n _ _ _).trans hn⟩
 ·cases h
def qJq:EnvP:=eQ [] 45 (some [4]) nC (fun x=>if x=0 then some [] else none) nP
def qJr:Code:=cO Tryz.f120
def qNb:Array ResultVar:=Tryz.f120.results
theorem qJs (n:Nat) (s0:LU) (o0:Lab) (at1:Int) (o1:Lab):evFnP qJq n qJr qNb [db s0 o0,de at1 o1]=qxC n s0 at1:=by
 kernel_rfl
theorem qvJ:qe G Tryz.prog 120 s_z120:=by
 refine sQ (E:=qJq) (c:=qJr) rfl (fun w S hg=>qc) Tryz.func120 ?_;intro avs r h;unfold s_z120 at h;split at h
 ·obtain ⟨hp,rfl⟩:=yj h;obtain ⟨n,hn⟩:=qDb _ _ hp;exact ⟨n,_,(qJs n _ _ _ _).trans hn,.inl rfl⟩
 ·cases h
def qJt:EnvP:=eQ [] 6 (some [2]) nC nC nP
def qJu:Code:=cO Tryz.f239
def qNc:Array ResultVar:=Tryz.f239.results
theorem qJv (n:Nat) (n0:Int) (o0:Lab):evFnP qJt n qJu qNc [de n0 o0]=qxE n n0:=by
 kernel_rfl
theorem qvK:qe G Tryz.prog 239 s_z239:=by
 refine sQ (E:=qJt) (c:=qJu) rfl (fun w S hg=>qc) Tryz.func239 ?_;intro avs r h;unfold s_z239 at h;split at h
 ·obtain ⟨hp,rfl⟩:=yj h;obtain ⟨n,hn⟩:=qCs _ hp;exact ⟨n,_,(qJv n _ _).trans hn,.inl rfl⟩
 ·cases h
def qJw:EnvP:=eQ [(239,s_z239)] 11 (some [2]) nC nC nP
def qJx:Code:=cO Tryz.f219
def qNd:Array ResultVar:=Tryz.f219.results
theorem qJy (n:Nat) (c0:UInt8) (o0:Lab):evFnP qJw n qJx qNd [dn c0 o0]=qxG n c0:=by
 kernel_rfl
theorem qvL:qe G Tryz.prog 219 s_z219:=by
 refine sQ (E:=qJw) (c:=qJx) rfl (fun w S hg=>(qa (qvK w S hg) qc)) Tryz.func219 ?_;intro avs r h;unfold s_z219 at h;split at h <;> cases h
 obtain ⟨n,hn⟩:=qCt _;exact ⟨n,_,(qJy n _ _).trans hn,.inl rfl⟩
def qJz:EnvP:=eQ [(153,s_z153),(219,s_z219)] 15 (some [6]) nC nC nP
def qJA:Code:=cO Tryz.f179
def qNe:Array ResultVar:=Tryz.f179.results
theorem qJB (n:Nat) (b0:LU) (o0:Lab) (sign1:UInt8) (o1:Lab) (c2:UInt8) (o2:Lab):evFnP qJz n qJA qNe [db b0 o0,dn sign1 o1,dn c2 o2]=qxI n b0 sign1 c2:=by
 kernel_rfl
theorem qvM:qe G Tryz.prog 179 s_z179:=by
 refine sQ (E:=qJz) (c:=qJA) rfl (fun w S hg=>(qa (qhF w S hg) (qa (qvL w S hg) qc))) Tryz.func179 ?_;intro avs r h;unfold s_z179 at h;split at h
 ·obtain ⟨hp,rfl⟩:=yj h;obtain ⟨n,hn⟩:=qCu _ _ _ hp;exact ⟨n,_,(qJB n _ _ _ _ _ _).trans hn,.inl rfl⟩
 ·cases h
def qJC:EnvP:=eQ [(144,s_z144),(179,s_z179)] 23 (some [4]) nC nC nP
def qJD:Code:=cO Tryz.f122
def qNf:Array ResultVar:=Tryz.f122.results
theorem qJE (n:Nat) (c0:UInt8) (o0:Lab) (ends1:Bool) (o1:Lab):evFnP qJC n qJD qNf [dn c0 o0,dh ends1 o1]=qxJ n c0 ends1:=by
 kernel_rfl
theorem qvN:qe G Tryz.prog 122 s_z122:=by
 refine sQ (E:=qJC) (c:=qJD) rfl (fun w S hg=>(qa (qmy w S hg) (qa (qvM w S hg) qc))) Tryz.func122 ?_;intro avs r h;unfold s_z122 at h;split at h <;> cases h
 obtain ⟨n,hn⟩:=qDa _ _;exact ⟨n,_,(qJE n _ _ _ _).trans hn,.inl rfl⟩
def E_z62:EnvP:=⟨⟨tiOf tis,fnsOf [(120,s_z120),(122,s_z122)],cnsOf [],[],50,(fun x=>if x=4 then some [0,3,4,5] else none),(fun x=>if x=0 then some [3] else if x=1 then some [0,3,4,5] else none),some [2]⟩,(fun x=>if x=7 then some (.ppair (.osl 5 .byte) (.ppair (.leaf (.int .i64)) (.leaf .unit))) else if x=8 then some (.ppair (.osl 5 .byte) (.ppair (.leaf (.int .i64)) (.leaf .unit))) else none),fun _=>none,fun _=>[],(fun x=>if x=119 then some s_z119 else if x=121 then some s_z121 else none),fun _=>none,fun _=>none,fun _=>none⟩
def C_z62:Code:=cO Tryz.f62
def R_z62:Array ResultVar:=Tryz.f62.results
noncomputable def qmC (K:Ex→Fr→OA):=fun p3=>K (.exit 0) (frOf [(3,(.pbox (.ppair (.osl 5 .byte) (.ppair (.leaf (.int .i64)) (.leaf .unit))) p3 none))])
def qqu (n:Nat):Ex→Fr→OA:=qo 0 (E_z62.cutb 0) (kSeq (evCP E_z62 (evLP E_z62 n) (sub C_z62 [1,1,1,1])) (kFnP E_z62 R_z62))
def qvO (s0:LU) (p3:LU×(Int×Unit)) (at5:Int):Fr:=frOf [(0,da s0),(3,(.pbox (.ppair (.osl 5 .byte) (.ppair (.leaf (.int .i64)) (.leaf .unit))) p3 none)),(4,(.padr 3 [.clo 119 true])),(5,dc at5)]
theorem qAu (K:Ex→Fr→OA):∀ (n:Nat) (s0:LU) (p3:LU×(Int×Unit)) (at5:Int),evLP E_z62 n (sub C_z62 [1,1,1,0,1,0,0]) K (qvO s0 p3 at5)=qoU (qmC K) n s0 p3 at5:=by
 intro n;induction n with
 | zero=>intros; rfl
 | succ n IH =>
 intro s0 p3 at5;have ih:(fun s0 p3 at5=>evLP E_z62 n (sub C_z62 [1,1,1,0,1,0,0]) K (qvO s0 p3 at5))=qoU (qmC K) n:=by
  funext s0 p3 at5;exact IH s0 p3 at5
 show _=qcZ (qmC K) (qoU (qmC K) n) n s0 p3 at5;rw [← ih];kernel_rfl
theorem qsx (n:Nat) (p3:LU×(Int×Unit)):(qqu n) (.exit 0) (frOf [(3,(.pbox (.ppair (.osl 5 .byte) (.ppair (.leaf (.int .i64)) (.leaf .unit))) p3 none))])=qfE n p3:=by
 kernel_rfl
theorem qNg (n:Nat) (s0:LU) (o0:Lab):evFnP E_z62 n C_z62 R_z62 [db s0 o0]=qBF n s0:=by
 unfold qBF;rw [show qoU (qfE n) n=(fun s0 p3 at5=>evLP E_z62 n (sub C_z62 [1,1,1,0,1,0,0]) (qqu n) (qvO s0 p3 at5)) from by
  funext s0 p3 at5;refine Eq.trans ?_ (qAu (qqu n) n s0 p3 at5).symm;rw [show (qmC (qqu n))=(qfE n) from by
   funext p3;exact qsx n p3]
  all_goals kernel_rfl]
 kernel_rfl
theorem qAv:qe G Tryz.prog 62 s_z62:=by
 refine qav G_stays (E:=E_z62) (fn:=Tryz.f62) (c:=C_z62) (qd rfl qZ) (fun w S hg=>⟨⟨(qa (qvJ w S hg) (qa (qvN w S hg) qc)),fun f sp h=>qx f sp h w S⟩,qy w S hg,(fun f sp h=>(qju (qvI w S hg) (qju (qmB w S hg) qtq)) f sp h),(fun f sp h=>qC f sp h),(fun f it h=>qD f it h),(fun t kt vt h=>qz t kt vt h)⟩) follows Tryz.func62 (by kernel_rfl) (by kernel_rfl) (by kernel_rfl) ?_;intro avs r h;unfold s_z62 at h;split at h
 ·obtain ⟨hp,rfl⟩:=yj h;obtain ⟨n,hn⟩:=qGP _ hp;exact ⟨n,_,(qNg n _ _).trans hn,.inl rfl⟩
 ·cases h
def E_z61:EnvP:=eQ [(62,s_z62)] 6 (some [2,3]) nC nC nP
def C_z61:Code:=cO Tryz.f61
def R_z61:Array ResultVar:=Tryz.f61.results
theorem qNh (n:Nat) (s0:LU) (o0:Lab):evFnP E_z61 n C_z61 R_z61 [db s0 o0]=qFN n s0:=by
 kernel_rfl
theorem qAw:qe G Tryz.prog 61 s_z61:=by
 refine sQ (E:=E_z61) (c:=C_z61) rfl (fun w S hg=>(qa (qAv w S hg) qc)) Tryz.func61 ?_;intro avs r h;unfold s_z61 at h;split at h
 ·obtain ⟨hp,rfl⟩:=yj h;obtain ⟨n,hn⟩:=qFy _ hp;exact ⟨n,_,(qNh n _ _).trans hn,.inl rfl⟩
 ·cases h
def qJF:EnvP:=eQ [] 6 (some [2]) nC nC nP
def qJG:Code:=cO Tryz.f222
def qNi:Array ResultVar:=Tryz.f222.results
theorem qJH (n:Nat) (n0:Int) (o0:Lab):evFnP qJF n qJG qNi [de n0 o0]=qxM n n0:=by
 kernel_rfl
theorem qvP:qe G Tryz.prog 222 s_z222:=by
 refine sQ (E:=qJF) (c:=qJG) rfl (fun w S hg=>qc) Tryz.func222 ?_;intro avs r h;unfold s_z222 at h;split at h <;> cases h
 obtain ⟨n,hn⟩:=qCQ _;exact ⟨n,_,(qJH n _ _).trans hn,.inl rfl⟩
end
end
end Go.Av
