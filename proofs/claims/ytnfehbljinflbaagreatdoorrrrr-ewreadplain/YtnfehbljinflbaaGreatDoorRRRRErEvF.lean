import Derived.Test.YtnfehbljinflbaaGreatDoorRRRRErEvE
import Derived.Test.YtnfehbljinflbaaGreatDoorRRRREtN
import Derived.Test.YtnfehbljinflbaaGreatDoorRRRRProg
import Derived.KernelRfl
namespace Go.Av
set_option linter.unusedSimpArgs false
noncomputable section
open Go.Proofs
set_option maxRecDepth 100000
set_option linter.unusedVariables false
def qGC:EnvP:=eQ [(128,s_z128)] 11 (some [2]) nC nC nP
def qGD:Code:=cO Tryz.f100
def qJp:Array ResultVar:=Tryz.f100.results
theorem qGE (n:Nat) (s0:List UInt8) (o0:Lab):evFnP qGC n qGD qJp [db s0 o0]=qwp n s0:=by
 kernel_rfl
theorem quN:qf G Tryz.prog 100 s_z100:=by
 refine sQ (E:=qGC) (c:=qGD) rfl (fun w S hg=>(qb (quM w S hg) qc)) Tryz.func100 ?_;intro avs r h;unfold s_z100 at h;split at h
 ·obtain ⟨hp,rfl⟩:=yj h;obtain ⟨n,hn⟩:=qAO _ hp;exact ⟨n,_,(qGE n _ _).trans hn,.inl rfl⟩
 ·cases h
def qGF:EnvP:=eQ [(51,s_z51)] 12 (some [2]) nC nC nP
def qGG:Code:=cO Tryz.f130
def qJq:Array ResultVar:=Tryz.f130.results
theorem qGH (n:Nat) (s0:List UInt8) (o0:Lab):evFnP qGF n qGG qJq [db s0 o0]=qwr n s0:=by
 kernel_rfl
theorem quO:qf G Tryz.prog 130 s_z130:=by
 refine sQ (E:=qGF) (c:=qGG) rfl (fun w S hg=>(qb (qgm w S hg) qc)) Tryz.func130 ?_;intro avs r h;unfold s_z130 at h;split at h
 ·obtain ⟨hp,rfl⟩:=yj h;obtain ⟨n,hn⟩:=qAa _ hp;exact ⟨n,_,(qGH n _ _).trans hn,.inl rfl⟩
 ·cases h
def qGI:EnvP:=eQ [(129,s_z129),(130,s_z130)] 16 (some [2]) nC (fun x=>if x=0 then some [] else none) nP
def qGJ:Code:=cO Tryz.f101
def qJr:Array ResultVar:=Tryz.f101.results
theorem qGK (n:Nat) (run0:List UInt8) (o0:Lab):evFnP qGI n qGJ qJr [db run0 o0]=qws n run0:=by
 kernel_rfl
theorem quP:qf G Tryz.prog 101 s_z101:=by
 refine sQ (E:=qGI) (c:=qGJ) rfl (fun w S hg=>(qb (qmb w S hg) (qb (quO w S hg) qc))) Tryz.func101 ?_;intro avs r h;unfold s_z101 at h;split at h
 ·obtain ⟨hp,rfl⟩:=yj h;obtain ⟨n,hn⟩:=qAN _ hp;exact ⟨n,_,(qGK n _ _).trans hn,.inl rfl⟩
 ·cases h
def E_z59:EnvP:=eQ [(83,s_z83),(99,s_z99),(100,s_z100),(101,s_z101)] 29 (some [2]) (fun x=>if x=2 then some [0,3] else none) (fun x=>if x=0 then some [3] else if x=1 then some [0,3] else none) nP
def C_z59:Code:=cO Tryz.f59
def R_z59:Array ResultVar:=Tryz.f59.results
noncomputable def qmi (K:Ex→Fr→Option AV):=fun l3=>K (.exit 0) (frOf [(3,(.dat (.sl (.pair (.int .i64) (.pair (.sl .byte) .unit))) l3 (some (3,41))))])
def qpT (n:Nat):Ex→Fr→Option AV:=qm 0 (E_z59.cutb 0) (kSeq (evCP E_z59 (evLP E_z59 n) (sub C_z59 [1,1,1])) (kFnP E_z59 R_z59))
def quQ (s0:List UInt8) (l3:List (Int×((List UInt8)×Unit))):Fr:=frOf [(0,da s0),(3,(.dat (.sl (.pair (.int .i64) (.pair (.sl .byte) .unit))) l3 (some (3,41))))]
theorem qze (K:Ex→Fr→Option AV):∀ (n:Nat) (s0:List UInt8) (l3:List (Int×((List UInt8)×Unit))),evLP E_z59 n (sub C_z59 [1,1,0,0,0]) K (quQ s0 l3)=qkX (qmi K) n s0 l3:=by
 intro n;induction n with
 | zero=>intros; rfl
 | succ n IH =>
 intro s0 l3;have ih:(fun s0 l3=>evLP E_z59 n (sub C_z59 [1,1,0,0,0]) K (quQ s0 l3))=qkX (qmi K) n:=by
  funext s0 l3;exact IH s0 l3
 show _=qfr (qmi K) (qkX (qmi K) n) n s0 l3;rw [← ih];kernel_rfl
theorem qrO (n:Nat) (l3:List (Int×((List UInt8)×Unit))):(qpT n) (.exit 0) (frOf [(3,(.dat (.sl (.pair (.int .i64) (.pair (.sl .byte) .unit))) l3 (some (3,41))))])=qhO n l3:=by
 kernel_rfl
theorem qJs (n:Nat) (s0:List UInt8) (o0:Lab):evFnP E_z59 n C_z59 R_z59 [db s0 o0]=qzI n s0:=by
 unfold qzI;rw [show qkX (qhO n) n=(fun s0 l3=>evLP E_z59 n (sub C_z59 [1,1,0,0,0]) (qpT n) (quQ s0 l3)) from by
  funext s0 l3;refine Eq.trans ?_ (qze (qpT n) n s0 l3).symm;rw [show (qmi (qpT n))=(qhO n) from by
   funext l3;exact qrO n l3]
  all_goals kernel_rfl]
 kernel_rfl
theorem qzf:qf G Tryz.prog 59 s_z59:=by
 refine sQ (E:=E_z59) (c:=C_z59) rfl (fun w S hg=>(qb (qgl w S hg) (qb (qzc w S hg) (qb (quN w S hg) (qb (quP w S hg) qc))))) Tryz.func59 ?_;intro avs r h;unfold s_z59 at h;split at h
 ·obtain ⟨hp,rfl⟩:=yj h;obtain ⟨n,hn⟩:=qEx _ hp;exact ⟨n,_,(qJs n _ _).trans hn,.inl rfl⟩
 ·cases h
def E_z60:EnvP:=eQ [] 51 (some [2]) (fun x=>if x=3 then some [0,3,9,10,11] else none) (fun x=>if x=0 then some [3] else if x=1 then some [0,3,9,10,11] else none) (fun x=>if x=8 then some (.psl 4 (.leaf .bool)) else none)
def C_z60:Code:=cO Tryz.f60
def R_z60:Array ResultVar:=Tryz.f60.results
noncomputable def qmj (K:Ex→Fr→Option AV):=fun out3=>K (.exit 0) (frOf [(3,(.pv (.psl 4 (.leaf .bool)) out3 none))])
def qpU (n:Nat):Ex→Fr→Option AV:=qm 0 (E_z60.cutb 0) (kSeq (evCP E_z60 (evLP E_z60 n) (sub C_z60 [1,1,1])) (kFnP E_z60 R_z60))
def quR (l0:List (Int×((List UInt8)×Unit))) (out3:List Bool) (s9:List (Int×((List UInt8)×Unit))) (s10:Int) (s11:Int):Fr:=frOf [(0,(.dat (.sl (.pair (.int .i64) (.pair (.sl .byte) .unit))) l0 none)),(3,(.pv (.psl 4 (.leaf .bool)) out3 none)),(9,(.dat (.sl (.pair (.int .i64) (.pair (.sl .byte) .unit))) s9 none)),(10,dc s10),(11,dc s11)]
theorem qzg (K:Ex→Fr→Option AV):∀ (n:Nat) (l0:List (Int×((List UInt8)×Unit))) (out3:List Bool) (s9:List (Int×((List UInt8)×Unit))) (s10:Int) (s11:Int),evLP E_z60 n (sub C_z60 [1,1,0,1,0,0]) K (quR l0 out3 s9 s10 s11)=qiv (qmj K) n l0 out3 s9 s10 s11:=by
 intro n;induction n with
 | zero=>intros; rfl
 | succ n IH =>
 intro l0 out3 s9 s10 s11;have ih:(fun l0 out3 s9 s10 s11=>evLP E_z60 n (sub C_z60 [1,1,0,1,0,0]) K (quR l0 out3 s9 s10 s11))=qiv (qmj K) n:=by
  funext l0 out3 s9 s10 s11;exact IH l0 out3 s9 s10 s11
 show _=qfs (qmj K) (qiv (qmj K) n) n l0 out3 s9 s10 s11;rw [← ih];kernel_rfl
theorem qrP (n:Nat) (out3:List Bool):(qpU n) (.exit 0) (frOf [(3,(.pv (.psl 4 (.leaf .bool)) out3 none))])=qhP n out3:=by
 kernel_rfl
theorem qJt (n:Nat) (l0:List (Int×((List UInt8)×Unit))) (o0:Lab):evFnP E_z60 n C_z60 R_z60 [.dat (.sl (.pair (.int .i64) (.pair (.sl .byte) .unit))) l0 o0]=qzJ n l0:=by
 unfold qzJ;rw [show qiv (qhP n) n=(fun l0 out3 s9 s10 s11=>evLP E_z60 n (sub C_z60 [1,1,0,1,0,0]) (qpU n) (quR l0 out3 s9 s10 s11)) from by
  funext l0 out3 s9 s10 s11;refine Eq.trans ?_ (qzg (qpU n) n l0 out3 s9 s10 s11).symm;rw [show (qmj (qpU n))=(qhP n) from by
   funext out3;exact qrP n out3]
  all_goals kernel_rfl]
 kernel_rfl
theorem qzh:qf G Tryz.prog 60 s_z60:=by
 refine sQ (E:=E_z60) (c:=C_z60) rfl (fun w S hg=>qc) Tryz.func60 ?_;intro avs r h;unfold s_z60 at h;split at h
 ·obtain ⟨hp,rfl⟩:=yj h;obtain ⟨n,hn⟩:=qEy _ hp;exact ⟨n,_,(qJt n _ _).trans hn,.inl rfl⟩
 ·cases h
def E_z37:EnvP:=eQ [(59,s_z59),(60,s_z60)] 28 (some [2]) (fun x=>if x=4 then some [3,4,10,11,12] else none) (fun x=>if x=0 then some [3] else if x=1 then some [3,4,10,11,12] else none) nP
def C_z37:Code:=cO Tryz.f37
def R_z37:Array ResultVar:=Tryz.f37.results
noncomputable def qmk (K:Ex→Fr→Option AV):=fun out3=>K (.exit 0) (frOf [(3,(.dat (.sl (.pair (.int .i64) (.pair (.sl .byte) .unit))) out3 (some (3,41))))])
def qpV (n:Nat):Ex→Fr→Option AV:=qm 0 (E_z37.cutb 0) (kSeq (evCP E_z37 (evLP E_z37 n) (sub C_z37 [1,1,1,1])) (kFnP E_z37 R_z37))
def quS (out3:List (Int×((List UInt8)×Unit))) (l4:List (Int×((List UInt8)×Unit))) (s10:List Bool) (s11:Int) (s12:Int):Fr:=frOf [(3,(.dat (.sl (.pair (.int .i64) (.pair (.sl .byte) .unit))) out3 (some (3,41)))),(4,(.dat (.sl (.pair (.int .i64) (.pair (.sl .byte) .unit))) l4 (some (4,41)))),(10,(.dat (.sl .bool) s10 (some (10,4)))),(11,dc s11),(12,dc s12)]
theorem qzi (K:Ex→Fr→Option AV):∀ (n:Nat) (out3:List (Int×((List UInt8)×Unit))) (l4:List (Int×((List UInt8)×Unit))) (s10:List Bool) (s11:Int) (s12:Int),evLP E_z37 n (sub C_z37 [1,1,1,0,1,0,0]) K (quS out3 l4 s10 s11 s12)=qkY (qmk K) n out3 l4 s10 s11 s12:=by
 intro n;induction n with
 | zero=>intros; rfl
 | succ n IH =>
 intro out3 l4 s10 s11 s12;have ih:(fun out3 l4 s10 s11 s12=>evLP E_z37 n (sub C_z37 [1,1,1,0,1,0,0]) K (quS out3 l4 s10 s11 s12))=qkY (qmk K) n:=by
  funext out3 l4 s10 s11 s12;exact IH out3 l4 s10 s11 s12
 show _=qft (qmk K) (qkY (qmk K) n) n out3 l4 s10 s11 s12;rw [← ih];kernel_rfl
theorem qrQ (n:Nat) (out3:List (Int×((List UInt8)×Unit))):(qpV n) (.exit 0) (frOf [(3,(.dat (.sl (.pair (.int .i64) (.pair (.sl .byte) .unit))) out3 (some (3,41))))])=qhQ n out3:=by
 kernel_rfl
theorem qJu (n:Nat) (s0:List UInt8) (o0:Lab):evFnP E_z37 n C_z37 R_z37 [db s0 o0]=qzK n s0:=by
 unfold qzK;rw [show qkY (qhQ n) n=(fun out3 l4 s10 s11 s12=>evLP E_z37 n (sub C_z37 [1,1,1,0,1,0,0]) (qpV n) (quS out3 l4 s10 s11 s12)) from by
  funext out3 l4 s10 s11 s12;refine Eq.trans ?_ (qzi (qpV n) n out3 l4 s10 s11 s12).symm;rw [show (qmk (qpV n))=(qhQ n) from by
   funext out3;exact qrQ n out3]
  all_goals kernel_rfl]
 kernel_rfl
theorem qzj:qf G Tryz.prog 37 s_z37:=by
 refine sQ (E:=E_z37) (c:=C_z37) rfl (fun w S hg=>(qb (qzf w S hg) (qb (qzh w S hg) qc))) Tryz.func37 ?_;intro avs r h;unfold s_z37 at h;split at h
 ·obtain ⟨hp,rfl⟩:=yj h;obtain ⟨n,hn⟩:=qEz _ hp;exact ⟨n,_,(qJu n _ _).trans hn,.inl rfl⟩
 ·cases h
def E_z62:EnvP:=eQ [] 11 (some [13]) nC nC (fun x=>if x=7 then some (.osl 21 (.int .i32)) else if x=10 then some (.osl 21 (.int .i32)) else none)
def C_z62:Code:=cO Tryz.f62
def R_z62:Array ResultVar:=Tryz.f62.results
theorem qJv (n:Nat) (c0:Int) (o0:Lab) (e1:Int) (o1:Lab) (x2:List Int):evFnM E_z62 n C_z62 R_z62 [.dat (.int .i32) c0 o0,de e1 o1,.pbox (.osl 21 (.int .i32)) x2 none]=qDz n c0 e1 x2:=by
 kernel_rfl
theorem qzk:qfR G Tryz.prog 62 s_z62:=by
 refine qP G_stays (E:=E_z62) (fn:=Tryz.f62) (c:=C_z62) (qe rfl qaU) (fun w S hg=>⟨⟨qc,fun f sp h=>qZ f sp h w S⟩,qae w S hg,(fun _ _ h=>by cases h),(fun f sp h=>qat f sp h),(fun f it h=>qau f it h),(fun t kt vt h=>qaa t kt vt h)⟩) follows Tryz.func62 (by kernel_rfl) (by kernel_rfl) (by kernel_rfl) ?_;intro avs r h;unfold s_z62 at h;split at h
 ·obtain ⟨hp,rfl⟩:=yj h;obtain ⟨n,hn⟩:=qEo _ _ _ hp;exact ⟨n,(qJv n _ _ _ _ _).trans hn⟩
 ·cases h
def qGL:EnvP:=eQ [] 19 (some [2]) nC (fun x=>if x=0 then some [] else none) nP
def qGM:Code:=cO Tryz.f132
def qJw:Array ResultVar:=Tryz.f132.results
theorem qGN (n:Nat) (c0:UInt8) (o0:Lab):evFnP qGL n qGM qJw [di c0 o0]=qwu n c0:=by
 kernel_rfl
theorem qml:qf G Tryz.prog 132 s_z132:=by
 refine sQ (E:=qGL) (c:=qGM) rfl (fun w S hg=>qc) Tryz.func132 ?_;intro avs r h;unfold s_z132 at h;split at h <;> cases h
 obtain ⟨n,hn⟩:=qAD _;exact ⟨n,_,(qGN n _ _).trans hn,.inl rfl⟩
def qGO:EnvP:=eQ [] 6 (some [2]) nC nC nP
def qGP:Code:=cO Tryz.f159
def qJx:Array ResultVar:=Tryz.f159.results
theorem qGQ (n:Nat) (c0:UInt8) (o0:Lab):evFnP qGO n qGP qJx [di c0 o0]=qww n c0:=by
 kernel_rfl
theorem qmm:qf G Tryz.prog 159 s_z159:=by
 refine sQ (E:=qGO) (c:=qGP) rfl (fun w S hg=>qc) Tryz.func159 ?_;intro avs r h;unfold s_z159 at h;split at h <;> cases h
 obtain ⟨n,hn⟩:=qAE _;exact ⟨n,_,(qGQ n _ _).trans hn,.inl rfl⟩
def qGR:EnvP:=eQ [(159,s_z159)] 40 (some [4]) nC (fun x=>if x=0 then some [1] else none) nP
def qGS:Code:=cO Tryz.f160
def qJy:Array ResultVar:=Tryz.f160.results
theorem qGT (n:Nat) (first0:UInt8) (o0:Lab) (c1:UInt8) (o1:Lab):evFnP qGR n qGS qJy [di first0 o0,di c1 o1]=qwx n first0 c1:=by
 kernel_rfl
theorem quT:qf G Tryz.prog 160 s_z160:=by
 refine sQ (E:=qGR) (c:=qGS) rfl (fun w S hg=>(qb (qmm w S hg) qc)) Tryz.func160 ?_;intro avs r h;unfold s_z160 at h;split at h <;> cases h
 obtain ⟨n,hn⟩:=qAF _ _;exact ⟨n,_,(qGT n _ _ _ _).trans hn,.inl rfl⟩
def qkr:EnvP:=eQ [(132,s_z132),(159,s_z159),(160,s_z160)] 45 (some [2]) (fun x=>if x=2 then some [0,3] else none) (fun x=>if x=0 then some [0,3] else if x=1 then some [0,3] else none) nP
def qrR:Code:=cO Tryz.f131
def qGU:Array ResultVar:=Tryz.f131.results
def qhw (s0:List UInt8) (n3:Int):Fr:=frOf [(0,da s0),(3,dc n3)]
noncomputable def qhx (K:Ex→Fr→Option AV):=fun s0 n3=>K (.exit 0) (qhw s0 n3)
noncomputable def qks (K:Ex→Fr→Option AV):=fun s2=>K .ret (frOf [(2,dc s2)])
def qkt (n:Nat):Ex→Fr→Option AV:=qm 0 (qkr.cutb 0) (kSeq (evCP qkr (evLP qkr n) (sub qrR [1,1,1])) (kFnP qkr qGU))
theorem quU (K:Ex→Fr→Option AV):∀ (n:Nat) (s0:List UInt8) (n3:Int),evLP qkr n (sub qrR [1,1,0,0,0]) K (qhw s0 n3)=qfH (qks K) (qhx K) n s0 n3:=by
 intro n;induction n with
 | zero=>intros; rfl
 | succ n IH =>
 intro s0 n3;have ih:(fun s0 n3=>evLP qkr n (sub qrR [1,1,0,0,0]) K (qhw s0 n3))=qfH (qks K) (qhx K) n:=by
  funext s0 n3;exact IH s0 n3
 show _=qbJ (qks K) (qhx K) (qfH (qks K) (qhx K) n) n s0 n3;rw [← ih];kernel_rfl
theorem qnQ (n:Nat) (s0:List UInt8) (n3:Int):(qkt n) (.exit 0) (qhw s0 n3)=qah n s0 n3:=by
 kernel_rfl
theorem qGV (n:Nat) (s0:List UInt8) (o0:Lab):evFnP qkr n qrR qGU [db s0 o0]=qqq n s0:=by
 unfold qqq;rw [show qfH qaH (qah n) n=(fun s0 n3=>evLP qkr n (sub qrR [1,1,0,0,0]) (qkt n) (qhw s0 n3)) from by
  funext s0 n3;refine Eq.trans ?_ (quU (qkt n) n s0 n3).symm;rw [show (qhx (qkt n))=(qah n) from by
   funext s0 n3;exact qnQ n s0 n3]
  all_goals kernel_rfl]
 kernel_rfl
theorem quV:qf G Tryz.prog 131 s_z131:=by
 refine sQ (E:=qkr) (c:=qrR) rfl (fun w S hg=>(qb (qml w S hg) (qb (qmm w S hg) (qb (quT w S hg) qc)))) Tryz.func131 ?_;intro avs r h;unfold s_z131 at h;split at h
 ·obtain ⟨hp,rfl⟩:=yj h;obtain ⟨n,hn⟩:=qAG _ hp;exact ⟨n,_,(qGV n _ _).trans hn,.inl rfl⟩
 ·cases h
end
end Go.Av
