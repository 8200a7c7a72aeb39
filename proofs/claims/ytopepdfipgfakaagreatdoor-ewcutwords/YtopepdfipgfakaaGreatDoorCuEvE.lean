import Derived.Test.YtopepdfipgfakaaGreatDoorCuEvD
import Derived.Test.YtopepdfipgfakaaGreatDoorCuC
import Derived.Test.YtopepdfipgfakaaGreatDoorProg
import Derived.KernelRfl
namespace Go.Av
set_option linter.unusedSimpArgs false
noncomputable section
open Go.Proofs
set_option maxRecDepth 100000
set_option linter.unusedVariables false
def E_z71:EnvP:=eQ [(116,s_z116),(117,s_z117)] 22 (some [2,3]) (fun x=>if x=3 then some [4,7,8,9] else none) (fun x=>if x=0 then some [4] else if x=1 then some [4,7,8,9] else none) nP
def C_z71:Code:=cO Tryz.f71
def R_z71:Array ResultVar:=Tryz.f71.results
noncomputable def qkx (K:Ex→Fr→Option AV):=fun all4=>K (.exit 0) (frOf [(4,(.dat (.int .i64) all4 none))])
def qov (n:Nat):Ex→Fr→Option AV:=qm 0 (E_z71.cutb 0) (kSeq (evCP E_z71 (evLP E_z71 n) (sub C_z71 [1,1,1])) (kFnP E_z71 R_z71))
def qut (all4:Int) (s7:List Int) (s8:Int) (s9:Int):Fr:=frOf [(4,(.dat (.int .i64) all4 none)),(7,(.dat (.sl (.int .i32)) s7 none)),(8,(.dat (.int .i64) s8 none)),(9,(.dat (.int .i64) s9 none))]
theorem qyx (K:Ex→Fr→Option AV):∀ (n:Nat) (all4:Int) (s7:List Int) (s8:Int) (s9:Int),evLP E_z71 n (sub C_z71 [1,1,0,1,0,0]) K (qut all4 s7 s8 s9)=qmP (qkx K) n all4 s7 s8 s9:=by
 intro n
 induction n with
 | zero=>intros; rfl
 | succ n IH =>
 intro all4 s7 s8 s9
 have ih:(fun all4 s7 s8 s9=>evLP E_z71 n (sub C_z71 [1,1,0,1,0,0]) K (qut all4 s7 s8 s9))=qmP (qkx K) n:=by
  funext all4 s7 s8 s9
  exact IH all4 s7 s8 s9
 show _=qef (qkx K) (qmP (qkx K) n) n all4 s7 s8 s9
 rw [← ih]
 kernel_rfl
theorem qrm (n:Nat) (all4:Int):(qov n) (.exit 0) (frOf [(4,(.dat (.int .i64) all4 none))])=qcC n all4:=by
 kernel_rfl
theorem qKT (n:Nat) (t0:List Int) (o0:Lab):evFnP E_z71 n C_z71 R_z71 [.dat (.sl (.int .i32)) t0 o0]=qzB n t0:=by
 unfold qzB
 rw [show qmP (qcC n) n=(fun all4 s7 s8 s9=>evLP E_z71 n (sub C_z71 [1,1,0,1,0,0]) (qov n) (qut all4 s7 s8 s9)) from by
  funext all4 s7 s8 s9
  refine Eq.trans ?_ (qyx (qov n) n all4 s7 s8 s9).symm
  rw [show (qkx (qov n))=(qcC n) from by
   funext all4
   exact qrm n all4]
  all_goals kernel_rfl]
 kernel_rfl
theorem qyy:qe Gc Tryz.prog 71 s_z71:=by
 refine sQ (E:=E_z71) (c:=C_z71) rfl (fun w S hg=>(qb (quq w S hg) (qb (qus w S hg) qc))) Tryz.func71 ?_
 intro avs r h
 unfold s_z71 at h
 split at h
 ·obtain ⟨hp,rfl⟩:=Prod.mk.inj h
  obtain ⟨n,hn⟩:=qDc _ hp
  exact ⟨n,_,(qKT n _ _).trans hn,.inl rfl⟩
 ·cases h
def qHU:EnvP:=eQ [(112,s_z112)] 17 (some [6]) nC nC nP
def qHV:Code:=cO Tryz.f159
def qKU:Array ResultVar:=Tryz.f159.results
theorem qHW (n:Nat) (charset0:Int) (o0:Lab) (code1:Int) (o1:Lab) (t2:List Int) (o2:Lab):evFnP qHU n qHV qKU [.dat (.int .i64) charset0 o0,.dat (.int .i64) code1 o1,.dat (.sl (.int .i32)) t2 o2]=qwh n charset0 code1 t2:=by
 kernel_rfl
theorem quu:qe Gc Tryz.prog 159 s_z159:=by
 refine sQ (E:=qHU) (c:=qHV) rfl (fun w S hg=>(qb (qga w S hg) qc)) Tryz.func159 ?_
 intro avs r h
 unfold s_z159 at h
 split at h
 ·obtain ⟨hp,rfl⟩:=Prod.mk.inj h
  obtain ⟨n,hn⟩:=qAZ _ _ _ hp
  exact ⟨n,_,(qHW n _ _ _ _ _ _).trans hn,.inl rfl⟩
 ·cases h
def qHX:EnvP:=eQ [(159,s_z159)] 12 (some [4]) nC nC nP
def qHY:Code:=cO Tryz.f118
def qKV:Array ResultVar:=Tryz.f118.results
theorem qHZ (n:Nat) (charset0:Int) (o0:Lab) (t1:List Int) (o1:Lab):evFnP qHX n qHY qKV [.dat (.int .i64) charset0 o0,.dat (.sl (.int .i32)) t1 o1]=qwj n charset0 t1:=by
 kernel_rfl
theorem quv:qe Gc Tryz.prog 118 s_z118:=by
 refine sQ (E:=qHX) (c:=qHY) rfl (fun w S hg=>(qb (quu w S hg) qc)) Tryz.func118 ?_
 intro avs r h
 unfold s_z118 at h
 split at h
 ·obtain ⟨hp,rfl⟩:=Prod.mk.inj h
  obtain ⟨n,hn⟩:=qBa _ _ hp
  exact ⟨n,_,(qHZ n _ _ _ _).trans hn,.inl rfl⟩
 ·cases h
def E_z72:EnvP:=eQ [(112,s_z112),(118,s_z118)] 21 (some [4,5]) nC nC nP
def C_z72:Code:=cO Tryz.f72
def R_z72:Array ResultVar:=Tryz.f72.results
theorem qKW (n:Nat) (charset0:Int) (o0:Lab) (t1:List Int) (o1:Lab):evFnP E_z72 n C_z72 R_z72 [.dat (.int .i64) charset0 o0,.dat (.sl (.int .i32)) t1 o1]=qDz n charset0 t1:=by
 kernel_rfl
theorem qyz:qe Gc Tryz.prog 72 s_z72:=by
 refine sQ (E:=E_z72) (c:=C_z72) rfl (fun w S hg=>(qb (qga w S hg) (qb (quv w S hg) qc))) Tryz.func72 ?_
 intro avs r h
 unfold s_z72 at h
 split at h
 ·obtain ⟨hp,rfl⟩:=Prod.mk.inj h
  obtain ⟨n,hn⟩:=qEy _ _ hp
  exact ⟨n,_,(qKW n _ _ _ _).trans hn,.inl rfl⟩
 ·cases h
def E_z30:EnvP:=eQ [(71,s_z71),(72,s_z72)] 25 (some [2,3,4]) nC nC nP
def C_z30:Code:=cO Tryz.f30
def R_z30:Array ResultVar:=Tryz.f30.results
theorem qKX (n:Nat) (t0:List Int) (o0:Lab):evFnP E_z30 n C_z30 R_z30 [.dat (.sl (.int .i32)) t0 o0]=qDA n t0:=by
 kernel_rfl
theorem qyA:qe Gc Tryz.prog 30 s_z30:=by
 refine sQ (E:=E_z30) (c:=C_z30) rfl (fun w S hg=>(qb (qyy w S hg) (qb (qyz w S hg) qc))) Tryz.func30 ?_
 intro avs r h
 unfold s_z30 at h
 split at h
 ·obtain ⟨hp,rfl⟩:=Prod.mk.inj h
  obtain ⟨n,hn⟩:=qDf _ hp
  exact ⟨n,_,(qKX n _ _).trans hn,.inl rfl⟩
 ·cases h
def qIa:EnvP:=eQ [] 6 (some [2]) nC nC nP
def qIb:Code:=cO Tryz.f181
def qKY:Array ResultVar:=Tryz.f181.results
theorem qIc (n:Nat) (n0:Int) (o0:Lab):evFnP qIa n qIb qKY [.dat (.int .i64) n0 o0]=qwm n n0:=by
 kernel_rfl
theorem quw:qe Gc Tryz.prog 181 s_z181:=by
 refine sQ (E:=qIa) (c:=qIb) rfl (fun w S hg=>qc) Tryz.func181 ?_
 intro avs r h
 unfold s_z181 at h
 split at h
 ·obtain ⟨hp,rfl⟩:=Prod.mk.inj h
  obtain ⟨n,hn⟩:=qzX _ hp
  exact ⟨n,_,(qIc n _ _).trans hn,.inl rfl⟩
 ·cases h
def qId:EnvP:=eQ [(181,s_z181)] 11 (some [2]) nC nC nP
def qIe:Code:=cO Tryz.f130
def qKZ:Array ResultVar:=Tryz.f130.results
theorem qIf (n:Nat) (c0:UInt8) (o0:Lab):evFnP qId n qIe qKZ [.dat .byte c0 o0]=qwo n c0:=by
 kernel_rfl
theorem qux:qe Gc Tryz.prog 130 s_z130:=by
 refine sQ (E:=qId) (c:=qIe) rfl (fun w S hg=>(qb (quw w S hg) qc)) Tryz.func130 ?_
 intro avs r h
 unfold s_z130 at h
 split at h <;> cases h
 obtain ⟨n,hn⟩:=qzZ _
 exact ⟨n,_,(qIf n _ _).trans hn,.inl rfl⟩
def E_z85:EnvP:=eQ [(38,s_z38),(130,s_z130)] 15 (some [6]) nC nC nP
def C_z85:Code:=cO Tryz.f85
def R_z85:Array ResultVar:=Tryz.f85.results
theorem qLa (n:Nat) (b0:List UInt8) (o0:Lab) (sign1:UInt8) (o1:Lab) (c2:UInt8) (o2:Lab):evFnP E_z85 n C_z85 R_z85 [.dat (.sl .byte) b0 o0,.dat .byte sign1 o1,.dat .byte c2 o2]=qDB n b0 sign1 c2:=by
 kernel_rfl
theorem qyB:qe Gc Tryz.prog 85 s_z85:=by
 refine sQ (E:=E_z85) (c:=C_z85) rfl (fun w S hg=>(qb (qof w S hg) (qb (qux w S hg) qc))) Tryz.func85 ?_
 intro avs r h
 unfold s_z85 at h
 split at h
 ·obtain ⟨hp,rfl⟩:=Prod.mk.inj h
  obtain ⟨n,hn⟩:=qDV _ _ _ hp
  exact ⟨n,_,(qLa n _ _ _ _ _ _).trans hn,.inl rfl⟩
 ·cases h
def E_z46:EnvP:=eQ [(83,s_z83),(84,s_z84),(85,s_z85)] 34 (some [2]) (fun x=>if x=3 then some [3,9,10,11] else none) (fun x=>if x=0 then some [3] else if x=1 then some [3,9,10,11] else if x=2 then some [3,9,10,11] else none) nP
def C_z46:Code:=cO Tryz.f46
def R_z46:Array ResultVar:=Tryz.f46.results
noncomputable def qky (K:Ex→Fr→Option AV):=fun out3=>K (.exit 0) (frOf [(3,(.dat (.sl .byte) out3 (some (3,5))))])
def qow (n:Nat):Ex→Fr→Option AV:=qm 0 (E_z46.cutb 0) (kSeq (evCP E_z46 (evLP E_z46 n) (sub C_z46 [1,1,1])) (kFnP E_z46 R_z46))
def quy (out3:List UInt8) (s9:List UInt8) (s10:Int) (s11:Int):Fr:=frOf [(3,(.dat (.sl .byte) out3 (some (3,5)))),(9,(.dat (.sl .byte) s9 none)),(10,(.dat (.int .i64) s10 none)),(11,(.dat (.int .i64) s11 none))]
theorem qyC (K:Ex→Fr→Option AV):∀ (n:Nat) (out3:List UInt8) (s9:List UInt8) (s10:Int) (s11:Int),evLP E_z46 n (sub C_z46 [1,1,0,1,0,0]) K (quy out3 s9 s10 s11)=qmQ (qky K) n out3 s9 s10 s11:=by
 intro n
 induction n with
 | zero=>intros; rfl
 | succ n IH =>
 intro out3 s9 s10 s11
 have ih:(fun out3 s9 s10 s11=>evLP E_z46 n (sub C_z46 [1,1,0,1,0,0]) K (quy out3 s9 s10 s11))=qmQ (qky K) n:=by
  funext out3 s9 s10 s11
  exact IH out3 s9 s10 s11
 show _=qeg (qky K) (qmQ (qky K) n) n out3 s9 s10 s11
 rw [← ih]
 kernel_rfl
theorem qrn (n:Nat) (out3:List UInt8):(qow n) (.exit 0) (frOf [(3,(.dat (.sl .byte) out3 (some (3,5))))])=qgz n out3:=by
 kernel_rfl
theorem qLb (n:Nat) (s0:List UInt8) (o0:Lab):evFnP E_z46 n C_z46 R_z46 [.dat (.sl .byte) s0 o0]=qzC n s0:=by
 unfold qzC
 rw [show qmQ (qgz n) n=(fun out3 s9 s10 s11=>evLP E_z46 n (sub C_z46 [1,1,0,1,0,0]) (qow n) (quy out3 s9 s10 s11)) from by
  funext out3 s9 s10 s11
  refine Eq.trans ?_ (qyC (qow n) n out3 s9 s10 s11).symm
  rw [show (qky (qow n))=(qgz n) from by
   funext out3
   exact qrn n out3]
  all_goals kernel_rfl]
 kernel_rfl
theorem qyD:qe Gc Tryz.prog 46 s_z46:=by
 refine sQ (E:=E_z46) (c:=C_z46) rfl (fun w S hg=>(qb (qon w S hg) (qb (qol w S hg) (qb (qyB w S hg) qc)))) Tryz.func46 ?_
 intro avs r h
 unfold s_z46 at h
 split at h
 ·obtain ⟨hp,rfl⟩:=Prod.mk.inj h
  obtain ⟨n,hn⟩:=qEr _ hp
  exact ⟨n,_,(qLb n _ _).trans hn,.inl rfl⟩
 ·cases h
def qIg:EnvP:=eQ [] 6 (some [2]) nC nC nP
def qIh:Code:=cO Tryz.f132
def qLc:Array ResultVar:=Tryz.f132.results
theorem qIi (n:Nat) (n0:Int) (o0:Lab):evFnP qIg n qIh qLc [.dat (.int .i64) n0 o0]=qwq n n0:=by
 kernel_rfl
theorem quz:qe Gc Tryz.prog 132 s_z132:=by
 refine sQ (E:=qIg) (c:=qIh) rfl (fun w S hg=>qc) Tryz.func132 ?_
 intro avs r h
 unfold s_z132 at h
 split at h <;> cases h
 obtain ⟨n,hn⟩:=qAi _
 exact ⟨n,_,(qIi n _ _).trans hn,.inl rfl⟩
def E_z88:EnvP:=eQ [(132,s_z132)] 49 (some [2]) (fun x=>if x=4 then some [3,4,5,8,9,10] else if x=8 then some [3,4,5,8,9,10] else none) (fun x=>if x=0 then some [3,4,5] else if x=1 then some [3,4,5,8,9,10] else if x=2 then some [3,4,5,8,9,10] else if x=3 then some [3,4,5,8,9,10] else none) nP
def C_z88:Code:=cO Tryz.f88
def R_z88:Array ResultVar:=Tryz.f88.results
def qbx (out3:List UInt8) (held4:Int) (many5:Int) (s8:List UInt8) (s9:Int) (s10:Int):Fr:=frOf [(3,(.dat (.sl .byte) out3 (some (3,5)))),(4,(.dat (.int .i64) held4 none)),(5,(.dat (.int .i64) many5 none)),(8,(.dat (.sl .byte) s8 none)),(9,(.dat (.int .i64) s9 none)),(10,(.dat (.int .i64) s10 none))]
noncomputable def qkz (K:Ex→Fr→Option AV):=fun out3 held4 many5 s8 s9 s10=>K (.exit 2) (qbx out3 held4 many5 s8 s9 s10)
def quA (out3:List UInt8) (held4:Int) (many5:Int):Fr:=frOf [(3,(.dat (.sl .byte) out3 (some (3,5)))),(4,(.dat (.int .i64) held4 none)),(5,(.dat (.int .i64) many5 none))]
noncomputable def qgd (K:Ex→Fr→Option AV):=fun out3 held4 many5=>K (.exit 0) (quA out3 held4 many5)
def qox (n:Nat) (K:Ex→Fr→Option AV):Ex→Fr→Option AV:=qm 2 (E_z88.cutb 2) (kSeq (evCP E_z88 (evLP E_z88 n) (sub C_z88 [1,1,1,0,1,0,0,1,1,0,0,1,1,1,1])) (qm 1 (E_z88.cutb 1) (kSeq (evCP E_z88 (evLP E_z88 n) (sub C_z88 [1,1,1,0,1,0,0,1,1,1])) (kSeq (fun K fr=>evLP E_z88 n (sub C_z88 [1,1,1,0,1,0,0]) K (cutFP (E_z88.cuts 4) fr)) K))))
def qoy (n:Nat):Ex→Fr→Option AV:=qm 0 (E_z88.cutb 0) (kSeq (evCP E_z88 (evLP E_z88 n) (sub C_z88 [1,1,1,1])) (kFnP E_z88 R_z88))
theorem qyE (K:Ex→Fr→Option AV):∀ (n:Nat) (out3:List UInt8) (held4:Int) (many5:Int) (s8:List UInt8) (s9:Int) (s10:Int),evLP E_z88 n (sub C_z88 [1,1,1,0,1,0,0,1,1,0,0,1,1,1,0,0,0]) K (qbx out3 held4 many5 s8 s9 s10)=qeh (qkz K) n out3 held4 many5 s8 s9 s10:=by
 intro n
 induction n with
 | zero=>intros; rfl
 | succ n IH =>
 intro out3 held4 many5 s8 s9 s10
 have ih:(fun out3 held4 many5 s8 s9 s10=>evLP E_z88 n (sub C_z88 [1,1,1,0,1,0,0,1,1,0,0,1,1,1,0,0,0]) K (qbx out3 held4 many5 s8 s9 s10))=qeh (qkz K) n:=by
  funext out3 held4 many5 s8 s9 s10
  exact IH out3 held4 many5 s8 s9 s10
 show _=qwr (qkz K) (qeh (qkz K) n) n out3 held4 many5 s8 s9 s10
 rw [← ih]
 kernel_rfl
theorem qro (K:Ex→Fr→Option AV) (n:Nat) (out3:List UInt8) (held4:Int) (many5:Int) (s8:List UInt8) (s9:Int) (s10:Int):(qox n K) (.exit 2) (qbx out3 held4 many5 s8 s9 s10)=qbB (fun out3 held4 many5=>K (.exit 0) (quA out3 held4 many5)) (fun out3 held4 many5 s8 s9 s10=>evLP E_z88 n (sub C_z88 [1,1,1,0,1,0,0]) K (qbx out3 held4 many5 s8 s9 s10)) n out3 held4 many5 s8 s9 s10:=by
 kernel_rfl
theorem qyF (K:Ex→Fr→Option AV):∀ (n:Nat) (out3:List UInt8) (held4:Int) (many5:Int) (s8:List UInt8) (s9:Int) (s10:Int),evLP E_z88 n (sub C_z88 [1,1,1,0,1,0,0]) K (qbx out3 held4 many5 s8 s9 s10)=qmR (qgd K) n out3 held4 many5 s8 s9 s10:=by
 intro n
 induction n with
 | zero=>intros; rfl
 | succ n IH =>
 intro out3 held4 many5 s8 s9 s10
 have ih:(fun out3 held4 many5 s8 s9 s10=>evLP E_z88 n (sub C_z88 [1,1,1,0,1,0,0]) K (qbx out3 held4 many5 s8 s9 s10))=qmR (qgd K) n:=by
  funext out3 held4 many5 s8 s9 s10
  exact IH out3 held4 many5 s8 s9 s10
 show _=qcD (qgd K) (qmR (qgd K) n) n out3 held4 many5 s8 s9 s10
 rw [← ih]
 unfold qcD
 rw [show qeh (qbB (qgd K) (fun out3 held4 many5 s8 s9 s10=>evLP E_z88 n (sub C_z88 [1,1,1,0,1,0,0]) K (qbx out3 held4 many5 s8 s9 s10)) n) n=(fun out3 held4 many5 s8 s9 s10=>evLP E_z88 n (sub C_z88 [1,1,1,0,1,0,0,1,1,0,0,1,1,1,0,0,0]) (qox n K) (qbx out3 held4 many5 s8 s9 s10)) from by
  funext out3 held4 many5 s8 s9 s10
  refine Eq.trans ?_ (qyE (qox n K) n out3 held4 many5 s8 s9 s10).symm
  rw [show (qkz (qox n K))=(qbB (qgd K) (fun out3 held4 many5 s8 s9 s10=>evLP E_z88 n (sub C_z88 [1,1,1,0,1,0,0]) K (qbx out3 held4 many5 s8 s9 s10)) n) from by
   funext out3 held4 many5 s8 s9 s10
   exact qro K n out3 held4 many5 s8 s9 s10]
  all_goals kernel_rfl]
 kernel_rfl
theorem qrp (n:Nat) (out3:List UInt8) (held4:Int) (many5:Int):(qoy n) (.exit 0) (quA out3 held4 many5)=qcE n out3 held4 many5:=by
 kernel_rfl
theorem qLd (n:Nat) (s0:List UInt8) (o0:Lab):evFnP E_z88 n C_z88 R_z88 [.dat (.sl .byte) s0 o0]=qzD n s0:=by
 unfold qzD
 rw [show qmR (qcE n) n=(fun out3 held4 many5 s8 s9 s10=>evLP E_z88 n (sub C_z88 [1,1,1,0,1,0,0]) (qoy n) (qbx out3 held4 many5 s8 s9 s10)) from by
  funext out3 held4 many5 s8 s9 s10
  refine Eq.trans ?_ (qyF (qoy n) n out3 held4 many5 s8 s9 s10).symm
  rw [show (qgd (qoy n))=(qcE n) from by
   funext out3 held4 many5
   exact qrp n out3 held4 many5]
  all_goals kernel_rfl]
 kernel_rfl
theorem qyG:qe Gc Tryz.prog 88 s_z88:=by
 refine sQ (E:=E_z88) (c:=C_z88) rfl (fun w S hg=>(qb (quz w S hg) qc)) Tryz.func88 ?_
 intro avs r h
 unfold s_z88 at h
 split at h
 ·obtain ⟨hp,rfl⟩:=Prod.mk.inj h
  obtain ⟨n,hn⟩:=qEq _ hp
  exact ⟨n,_,(qLd n _ _).trans hn,.inl rfl⟩
 ·cases h
theorem qyH:qe Gc Tryz.prog 47 s_z47:=fun w S hg vals avs r h hS ha=>by
 unfold s_z47 at h
 split at h
 ·rename_i s o
  simp only [Prod.mk.injEq] at h
  obtain ⟨hp,rfl⟩:=h
  obtain ⟨u,rfl,h1⟩:=args1 ha
  obtain ⟨A,cap,rfl,hcap,hA,hcA⟩:=qjD h1
  have hent:(callFunc 47 #[.slice A (List.length s) cap]).run Tryz.prog w=.ok (.enter 47 #[.slice A (List.length s) cap]) w:=enters_of (c:=Tryz.f47.body.getD .skip) Tryz.func47 (by kernel_rfl) (by kernel_rfl) _ _
  refine .inl ⟨hent,(Go.Proofs.lay_walk (S:=S) (qp hp) ?_).mono ?_⟩
  ·intro w' hb
   have hk:Keeps w S w' S:=fun b o hs=>⟨hs,qg (hb.block b (hS b o hs)) o⟩
   have hS':∀ b o,S b o→b < w'.heap.size:=fun b o hs=>Nat.lt_of_lt_of_le (hS b o hs) hb.size
   rcases qyG w' S (qaP w S w' S hk hg) [.slice A (List.length s) cap] [.dat (.sl .byte) s none] _ (show s_z88 _=(true,_) from Prod.ext hp rfl) hS' (qdI ((h1.keeps hk).relab none) (qjH _ _)) with ⟨_,h2⟩ | ⟨v,w2,h2,_⟩
   ·refine h2.mono fun e w2 ⟨v,he,S2,g2,hr⟩=>?_
    obtain ⟨A',cap',rfl,_,hA',hc'⟩:=qjD hr.rd
    refine ⟨A',cap',he,g2.below,hA',fun ad ha' i x hx=>?_⟩
    have hi:=(List.getElem?_eq_some_iff.1 hx).1
    have hx':(z88 s)[i]? = some x:=hx
    have:=hc' ad ha' i hi
    rw [List.getD_eq_getElem?_getD,List.getElem?_map,hx'] at this
    exact this
   ·exfalso
    have:(callFunc 88 #[.slice A (List.length s) cap]).run Tryz.prog w'=.ok (.enter 88 #[.slice A (List.length s) cap]) w':=enters_of (c:=Tryz.f88.body.getD .skip) Tryz.func88 (by kernel_rfl) (by kernel_rfl) _ _
    rw [this] at h2
    cases h2
  ·rintro e w' ⟨v,rfl,hf,hb⟩
   exact ⟨v,rfl,Go.Proofs.res_fresh hS hb hf⟩
 ·cases h
def E_z15:EnvP:=eQ [(44,s_z44),(45,s_z45),(46,s_z46),(47,s_z47),(48,s_z48)] 41 (some [1000006,7]) nC (fun x=>if x=0 then some [0,1,2] else none) (fun x=>if x=32 then some (.osl 5 .byte) else if x=34 then some (.osl 5 .byte) else if x=36 then some (.osl 5 .byte) else none)
def C_z15:Code:=cO Tryz.f15
def R_z15:Array ResultVar:=Tryz.f15.results
theorem qLe (n:Nat) (charset0:Int) (o0:Lab) (code1:Int) (o1:Lab) (s2:List UInt8) (o2:Lab):evFnP E_z15 n C_z15 R_z15 [.dat (.int .i64) charset0 o0,.dat (.int .i64) code1 o1,.dat (.sl .byte) s2 o2]=qDC n charset0 code1 s2:=by
 kernel_rfl
theorem qyI:qe Gc Tryz.prog 15 s_z15:=by
 refine sQ (E:=E_z15) (c:=C_z15) rfl (fun w S hg=>(qb (qoi w S hg) (qb (qoj w S hg) (qb (qyD w S hg) (qb (qyH w S hg) (qb (qok w S hg) qc)))))) Tryz.func15 ?_
 intro avs r h
 unfold s_z15 at h
 split at h
 ·obtain ⟨hp,rfl⟩:=Prod.mk.inj h
  obtain ⟨n,hn⟩:=qEs _ _ _ hp
  exact ⟨n,_,(qLe n _ _ _ _ _ _).trans hn,.inl rfl⟩
 ·cases h
def E_z75:EnvP:=eQ [(15,s_z15),(120,s_z120)] 25 (some [1000006,7]) nC nC nP
def C_z75:Code:=cO Tryz.f75
def R_z75:Array ResultVar:=Tryz.f75.results
theorem qLf (n:Nat) (charset0:Int) (o0:Lab) (code1:Int) (o1:Lab) (p2:List Int) (o2:Lab):evFnP E_z75 n C_z75 R_z75 [.dat (.int .i64) charset0 o0,.dat (.int .i64) code1 o1,.dat (.sl (.int .i32)) p2 o2]=qDD n charset0 code1 p2:=by
 kernel_rfl
theorem qyJ:qe Gc Tryz.prog 75 s_z75:=by
 refine sQ (E:=E_z75) (c:=C_z75) rfl (fun w S hg=>(qb (qyI w S hg) (qb (qkv w S hg) qc))) Tryz.func75 ?_
 intro avs r h
 unfold s_z75 at h
 split at h
 ·obtain ⟨hp,rfl⟩:=Prod.mk.inj h
  obtain ⟨n,hn⟩:=qDh _ _ _ hp
  exact ⟨n,_,(qLf n _ _ _ _ _ _).trans hn,.inl rfl⟩
 ·cases h
end
end Go.Av
