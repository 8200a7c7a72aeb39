import Derived.Test.YtopepdfipgfakaaGreatDoorCuEvD
import Derived.Test.YtopepdfipgfakaaGreatDoorCuC
import Derived.Test.YtopepdfipgfakaaGreatDoorProg
import Derived.KernelRfl
namespace Go.Av
set_option linter.unusedSimpArgs false
noncomputable section
open Go.Proofs
set_option maxRecDepth 100000
set_option linter.unusedVariables false
def qGS:EnvP:=eQ [(201,s_z201)] 8 (some [2]) nC nC nP
def qGT:Code:=cO Tryz.f158
def qJS:Array ResultVar:=Tryz.f158.results
theorem qGU (n:Nat) (x0:Int) (o0:Lab):evFnP qGS n qGT qJS [.dat (.int .u64) x0 o0]=qvk n x0:=by
 kernel_rfl
theorem qtA:qe Gc Tryz.prog 158 s_z158:=by
 refine sQ (E:=qGS) (c:=qGT) rfl (fun w S hg=>(qb (qsx w S hg) qc)) Tryz.func158 ?_
 intro avs r h
 unfold s_z158 at h
 split at h
 ·obtain ⟨hp,rfl⟩:=Prod.mk.inj h
  obtain ⟨n,hn⟩:=qyt _ hp
  exact ⟨n,_,(qGU n _ _).trans hn,.inl rfl⟩
 ·cases h
def qGV:EnvP:=eQ [(158,s_z158)] 8 (some [2]) nC nC nP
def qGW:Code:=cO Tryz.f117
def qJT:Array ResultVar:=Tryz.f117.results
theorem qGX (n:Nat) (sets0:Int) (o0:Lab):evFnP qGV n qGW qJT [.dat (.int .i64) sets0 o0]=qvl n sets0:=by
 kernel_rfl
theorem qtB:qe Gc Tryz.prog 117 s_z117:=by
 refine sQ (E:=qGV) (c:=qGW) rfl (fun w S hg=>(qb (qtA w S hg) qc)) Tryz.func117 ?_
 intro avs r h
 unfold s_z117 at h
 split at h
 ·obtain ⟨hp,rfl⟩:=Prod.mk.inj h
  obtain ⟨n,hn⟩:=qyu _ hp
  exact ⟨n,_,(qGX n _ _).trans hn,.inl rfl⟩
 ·cases h
def E_z71:EnvP:=eQ [(116,s_z116),(117,s_z117)] 22 (some [2,3]) (fun x=>if x=3 then some [4,7,8,9] else none) (fun x=>if x=0 then some [4] else if x=1 then some [4,7,8,9] else none) nP
def C_z71:Code:=cO Tryz.f71
def R_z71:Array ResultVar:=Tryz.f71.results
noncomputable def qke (K:Ex→Fr→Option AV):=fun all4=>K (.exit 0) (frOf [(4,(.dat (.int .i64) all4 none))])
def qnW (n:Nat):Ex→Fr→Option AV:=qm 0 (E_z71.cutb 0) (kSeq (evCP E_z71 (evLP E_z71 n) (sub C_z71 [1,1,1])) (kFnP E_z71 R_z71))
def qtC (all4:Int) (s7:List Int) (s8:Int) (s9:Int):Fr:=frOf [(4,(.dat (.int .i64) all4 none)),(7,(.dat (.sl (.int .i32)) s7 none)),(8,(.dat (.int .i64) s8 none)),(9,(.dat (.int .i64) s9 none))]
theorem qxA (K:Ex→Fr→Option AV):∀ (n:Nat) (all4:Int) (s7:List Int) (s8:Int) (s9:Int),evLP E_z71 n (sub C_z71 [1,1,0,1,0,0]) K (qtC all4 s7 s8 s9)=qmw (qke K) n all4 s7 s8 s9:=by
 intro n
 induction n with
 | zero=>intros; rfl
 | succ n IH =>
 intro all4 s7 s8 s9
 have ih:(fun all4 s7 s8 s9=>evLP E_z71 n (sub C_z71 [1,1,0,1,0,0]) K (qtC all4 s7 s8 s9))=qmw (qke K) n:=by
  funext all4 s7 s8 s9
  exact IH all4 s7 s8 s9
 show _=qea (qke K) (qmw (qke K) n) n all4 s7 s8 s9
 rw [← ih]
 kernel_rfl
theorem qqw (n:Nat) (all4:Int):(qnW n) (.exit 0) (frOf [(4,(.dat (.int .i64) all4 none))])=qcz n all4:=by
 kernel_rfl
theorem qJU (n:Nat) (t0:List Int) (o0:Lab):evFnP E_z71 n C_z71 R_z71 [.dat (.sl (.int .i32)) t0 o0]=qyJ n t0:=by
 unfold qyJ
 rw [show qmw (qcz n) n=(fun all4 s7 s8 s9=>evLP E_z71 n (sub C_z71 [1,1,0,1,0,0]) (qnW n) (qtC all4 s7 s8 s9)) from by
  funext all4 s7 s8 s9
  refine Eq.trans ?_ (qxA (qnW n) n all4 s7 s8 s9).symm
  rw [show (qke (qnW n))=(qcz n) from by
   funext all4
   exact qqw n all4]
  all_goals kernel_rfl]
 kernel_rfl
theorem qxB:qe Gc Tryz.prog 71 s_z71:=by
 refine sQ (E:=E_z71) (c:=C_z71) rfl (fun w S hg=>(qb (qtz w S hg) (qb (qtB w S hg) qc))) Tryz.func71 ?_
 intro avs r h
 unfold s_z71 at h
 split at h
 ·obtain ⟨hp,rfl⟩:=Prod.mk.inj h
  obtain ⟨n,hn⟩:=qCj _ hp
  exact ⟨n,_,(qJU n _ _).trans hn,.inl rfl⟩
 ·cases h
def qGY:EnvP:=eQ [(112,s_z112)] 17 (some [6]) nC nC nP
def qGZ:Code:=cO Tryz.f159
def qJV:Array ResultVar:=Tryz.f159.results
theorem qHa (n:Nat) (charset0:Int) (o0:Lab) (code1:Int) (o1:Lab) (t2:List Int) (o2:Lab):evFnP qGY n qGZ qJV [.dat (.int .i64) charset0 o0,.dat (.int .i64) code1 o1,.dat (.sl (.int .i32)) t2 o2]=qvo n charset0 code1 t2:=by
 kernel_rfl
theorem qtD:qe Gc Tryz.prog 159 s_z159:=by
 refine sQ (E:=qGY) (c:=qGZ) rfl (fun w S hg=>(qb (qfR w S hg) qc)) Tryz.func159 ?_
 intro avs r h
 unfold s_z159 at h
 split at h
 ·obtain ⟨hp,rfl⟩:=Prod.mk.inj h
  obtain ⟨n,hn⟩:=qAg _ _ _ hp
  exact ⟨n,_,(qHa n _ _ _ _ _ _).trans hn,.inl rfl⟩
 ·cases h
def qHb:EnvP:=eQ [(159,s_z159)] 12 (some [4]) nC nC nP
def qHc:Code:=cO Tryz.f118
def qJW:Array ResultVar:=Tryz.f118.results
theorem qHd (n:Nat) (charset0:Int) (o0:Lab) (t1:List Int) (o1:Lab):evFnP qHb n qHc qJW [.dat (.int .i64) charset0 o0,.dat (.sl (.int .i32)) t1 o1]=qvq n charset0 t1:=by
 kernel_rfl
theorem qtE:qe Gc Tryz.prog 118 s_z118:=by
 refine sQ (E:=qHb) (c:=qHc) rfl (fun w S hg=>(qb (qtD w S hg) qc)) Tryz.func118 ?_
 intro avs r h
 unfold s_z118 at h
 split at h
 ·obtain ⟨hp,rfl⟩:=Prod.mk.inj h
  obtain ⟨n,hn⟩:=qAh _ _ hp
  exact ⟨n,_,(qHd n _ _ _ _).trans hn,.inl rfl⟩
 ·cases h
def E_z72:EnvP:=eQ [(112,s_z112),(118,s_z118)] 21 (some [4,5]) nC nC nP
def C_z72:Code:=cO Tryz.f72
def R_z72:Array ResultVar:=Tryz.f72.results
theorem qJX (n:Nat) (charset0:Int) (o0:Lab) (t1:List Int) (o1:Lab):evFnP E_z72 n C_z72 R_z72 [.dat (.int .i64) charset0 o0,.dat (.sl (.int .i32)) t1 o1]=qCE n charset0 t1:=by
 kernel_rfl
theorem qxC:qe Gc Tryz.prog 72 s_z72:=by
 refine sQ (E:=E_z72) (c:=C_z72) rfl (fun w S hg=>(qb (qfR w S hg) (qb (qtE w S hg) qc))) Tryz.func72 ?_
 intro avs r h
 unfold s_z72 at h
 split at h
 ·obtain ⟨hp,rfl⟩:=Prod.mk.inj h
  obtain ⟨n,hn⟩:=qDC _ _ hp
  exact ⟨n,_,(qJX n _ _ _ _).trans hn,.inl rfl⟩
 ·cases h
def E_z30:EnvP:=eQ [(71,s_z71),(72,s_z72)] 25 (some [2,3,4]) nC nC nP
def C_z30:Code:=cO Tryz.f30
def R_z30:Array ResultVar:=Tryz.f30.results
theorem qJY (n:Nat) (t0:List Int) (o0:Lab):evFnP E_z30 n C_z30 R_z30 [.dat (.sl (.int .i32)) t0 o0]=qCF n t0:=by
 kernel_rfl
theorem qnX:qe Gc Tryz.prog 30 s_z30:=by
 refine sQ (E:=E_z30) (c:=C_z30) rfl (fun w S hg=>(qb (qxB w S hg) (qb (qxC w S hg) qc))) Tryz.func30 ?_
 intro avs r h
 unfold s_z30 at h
 split at h
 ·obtain ⟨hp,rfl⟩:=Prod.mk.inj h
  obtain ⟨n,hn⟩:=qCm _ hp
  exact ⟨n,_,(qJY n _ _).trans hn,.inl rfl⟩
 ·cases h
def qHe:EnvP:=eQ [] 6 (some [2]) nC nC nP
def qHf:Code:=cO Tryz.f181
def qJZ:Array ResultVar:=Tryz.f181.results
theorem qHg (n:Nat) (n0:Int) (o0:Lab):evFnP qHe n qHf qJZ [.dat (.int .i64) n0 o0]=qvt n n0:=by
 kernel_rfl
theorem qtF:qe Gc Tryz.prog 181 s_z181:=by
 refine sQ (E:=qHe) (c:=qHf) rfl (fun w S hg=>qc) Tryz.func181 ?_
 intro avs r h
 unfold s_z181 at h
 split at h
 ·obtain ⟨hp,rfl⟩:=Prod.mk.inj h
  obtain ⟨n,hn⟩:=qzd _ hp
  exact ⟨n,_,(qHg n _ _).trans hn,.inl rfl⟩
 ·cases h
def qHh:EnvP:=eQ [(181,s_z181)] 11 (some [2]) nC nC nP
def qHi:Code:=cO Tryz.f130
def qKa:Array ResultVar:=Tryz.f130.results
theorem qHj (n:Nat) (c0:UInt8) (o0:Lab):evFnP qHh n qHi qKa [.dat .byte c0 o0]=qvv n c0:=by
 kernel_rfl
theorem qtG:qe Gc Tryz.prog 130 s_z130:=by
 refine sQ (E:=qHh) (c:=qHi) rfl (fun w S hg=>(qb (qtF w S hg) qc)) Tryz.func130 ?_
 intro avs r h
 unfold s_z130 at h
 split at h <;> cases h
 obtain ⟨n,hn⟩:=qzf _
 exact ⟨n,_,(qHj n _ _).trans hn,.inl rfl⟩
def E_z85:EnvP:=eQ [(38,s_z38),(130,s_z130)] 15 (some [6]) nC nC nP
def C_z85:Code:=cO Tryz.f85
def R_z85:Array ResultVar:=Tryz.f85.results
theorem qKb (n:Nat) (b0:List UInt8) (o0:Lab) (sign1:UInt8) (o1:Lab) (c2:UInt8) (o2:Lab):evFnP E_z85 n C_z85 R_z85 [.dat (.sl .byte) b0 o0,.dat .byte sign1 o1,.dat .byte c2 o2]=qCG n b0 sign1 c2:=by
 kernel_rfl
theorem qxD:qe Gc Tryz.prog 85 s_z85:=by
 refine sQ (E:=E_z85) (c:=C_z85) rfl (fun w S hg=>(qb (qnF w S hg) (qb (qtG w S hg) qc))) Tryz.func85 ?_
 intro avs r h
 unfold s_z85 at h
 split at h
 ·obtain ⟨hp,rfl⟩:=Prod.mk.inj h
  obtain ⟨n,hn⟩:=qCY _ _ _ hp
  exact ⟨n,_,(qKb n _ _ _ _ _ _).trans hn,.inl rfl⟩
 ·cases h
def E_z46:EnvP:=eQ [(83,s_z83),(84,s_z84),(85,s_z85)] 34 (some [2]) (fun x=>if x=3 then some [3,9,10,11] else none) (fun x=>if x=0 then some [3] else if x=1 then some [3,9,10,11] else if x=2 then some [3,9,10,11] else none) nP
def C_z46:Code:=cO Tryz.f46
def R_z46:Array ResultVar:=Tryz.f46.results
noncomputable def qkf (K:Ex→Fr→Option AV):=fun out3=>K (.exit 0) (frOf [(3,(.dat (.sl .byte) out3 (some (3,5))))])
def qnY (n:Nat):Ex→Fr→Option AV:=qm 0 (E_z46.cutb 0) (kSeq (evCP E_z46 (evLP E_z46 n) (sub C_z46 [1,1,1])) (kFnP E_z46 R_z46))
def qtH (out3:List UInt8) (s9:List UInt8) (s10:Int) (s11:Int):Fr:=frOf [(3,(.dat (.sl .byte) out3 (some (3,5)))),(9,(.dat (.sl .byte) s9 none)),(10,(.dat (.int .i64) s10 none)),(11,(.dat (.int .i64) s11 none))]
theorem qxE (K:Ex→Fr→Option AV):∀ (n:Nat) (out3:List UInt8) (s9:List UInt8) (s10:Int) (s11:Int),evLP E_z46 n (sub C_z46 [1,1,0,1,0,0]) K (qtH out3 s9 s10 s11)=qmx (qkf K) n out3 s9 s10 s11:=by
 intro n
 induction n with
 | zero=>intros; rfl
 | succ n IH =>
 intro out3 s9 s10 s11
 have ih:(fun out3 s9 s10 s11=>evLP E_z46 n (sub C_z46 [1,1,0,1,0,0]) K (qtH out3 s9 s10 s11))=qmx (qkf K) n:=by
  funext out3 s9 s10 s11
  exact IH out3 s9 s10 s11
 show _=qeb (qkf K) (qmx (qkf K) n) n out3 s9 s10 s11
 rw [← ih]
 kernel_rfl
theorem qqx (n:Nat) (out3:List UInt8):(qnY n) (.exit 0) (frOf [(3,(.dat (.sl .byte) out3 (some (3,5))))])=qgq n out3:=by
 kernel_rfl
theorem qKc (n:Nat) (s0:List UInt8) (o0:Lab):evFnP E_z46 n C_z46 R_z46 [.dat (.sl .byte) s0 o0]=qyK n s0:=by
 unfold qyK
 rw [show qmx (qgq n) n=(fun out3 s9 s10 s11=>evLP E_z46 n (sub C_z46 [1,1,0,1,0,0]) (qnY n) (qtH out3 s9 s10 s11)) from by
  funext out3 s9 s10 s11
  refine Eq.trans ?_ (qxE (qnY n) n out3 s9 s10 s11).symm
  rw [show (qkf (qnY n))=(qgq n) from by
   funext out3
   exact qqx n out3]
  all_goals kernel_rfl]
 kernel_rfl
theorem qxF:qe Gc Tryz.prog 46 s_z46:=by
 refine sQ (E:=E_z46) (c:=C_z46) rfl (fun w S hg=>(qb (qnN w S hg) (qb (qnL w S hg) (qb (qxD w S hg) qc)))) Tryz.func46 ?_
 intro avs r h
 unfold s_z46 at h
 split at h
 ·obtain ⟨hp,rfl⟩:=Prod.mk.inj h
  obtain ⟨n,hn⟩:=qDu _ hp
  exact ⟨n,_,(qKc n _ _).trans hn,.inl rfl⟩
 ·cases h
def qHk:EnvP:=eQ [] 6 (some [2]) nC nC nP
def qHl:Code:=cO Tryz.f132
def qKd:Array ResultVar:=Tryz.f132.results
theorem qHm (n:Nat) (n0:Int) (o0:Lab):evFnP qHk n qHl qKd [.dat (.int .i64) n0 o0]=qvx n n0:=by
 kernel_rfl
theorem qtI:qe Gc Tryz.prog 132 s_z132:=by
 refine sQ (E:=qHk) (c:=qHl) rfl (fun w S hg=>qc) Tryz.func132 ?_
 intro avs r h
 unfold s_z132 at h
 split at h <;> cases h
 obtain ⟨n,hn⟩:=qzo _
 exact ⟨n,_,(qHm n _ _).trans hn,.inl rfl⟩
def E_z88:EnvP:=eQ [(132,s_z132)] 49 (some [2]) (fun x=>if x=4 then some [3,4,5,8,9,10] else if x=8 then some [3,4,5,8,9,10] else none) (fun x=>if x=0 then some [3,4,5] else if x=1 then some [3,4,5,8,9,10] else if x=2 then some [3,4,5,8,9,10] else if x=3 then some [3,4,5,8,9,10] else none) nP
def C_z88:Code:=cO Tryz.f88
def R_z88:Array ResultVar:=Tryz.f88.results
def qbv (out3:List UInt8) (held4:Int) (many5:Int) (s8:List UInt8) (s9:Int) (s10:Int):Fr:=frOf [(3,(.dat (.sl .byte) out3 (some (3,5)))),(4,(.dat (.int .i64) held4 none)),(5,(.dat (.int .i64) many5 none)),(8,(.dat (.sl .byte) s8 none)),(9,(.dat (.int .i64) s9 none)),(10,(.dat (.int .i64) s10 none))]
noncomputable def qkg (K:Ex→Fr→Option AV):=fun out3 held4 many5 s8 s9 s10=>K (.exit 2) (qbv out3 held4 many5 s8 s9 s10)
def qtJ (out3:List UInt8) (held4:Int) (many5:Int):Fr:=frOf [(3,(.dat (.sl .byte) out3 (some (3,5)))),(4,(.dat (.int .i64) held4 none)),(5,(.dat (.int .i64) many5 none))]
noncomputable def qfU (K:Ex→Fr→Option AV):=fun out3 held4 many5=>K (.exit 0) (qtJ out3 held4 many5)
def qnZ (n:Nat) (K:Ex→Fr→Option AV):Ex→Fr→Option AV:=qm 2 (E_z88.cutb 2) (kSeq (evCP E_z88 (evLP E_z88 n) (sub C_z88 [1,1,1,0,1,0,0,1,1,0,0,1,1,1,1])) (qm 1 (E_z88.cutb 1) (kSeq (evCP E_z88 (evLP E_z88 n) (sub C_z88 [1,1,1,0,1,0,0,1,1,1])) (kSeq (fun K fr=>evLP E_z88 n (sub C_z88 [1,1,1,0,1,0,0]) K (cutFP (E_z88.cuts 4) fr)) K))))
def qoa (n:Nat):Ex→Fr→Option AV:=qm 0 (E_z88.cutb 0) (kSeq (evCP E_z88 (evLP E_z88 n) (sub C_z88 [1,1,1,1])) (kFnP E_z88 R_z88))
theorem qxG (K:Ex→Fr→Option AV):∀ (n:Nat) (out3:List UInt8) (held4:Int) (many5:Int) (s8:List UInt8) (s9:Int) (s10:Int),evLP E_z88 n (sub C_z88 [1,1,1,0,1,0,0,1,1,0,0,1,1,1,0,0,0]) K (qbv out3 held4 many5 s8 s9 s10)=qec (qkg K) n out3 held4 many5 s8 s9 s10:=by
 intro n
 induction n with
 | zero=>intros; rfl
 | succ n IH =>
 intro out3 held4 many5 s8 s9 s10
 have ih:(fun out3 held4 many5 s8 s9 s10=>evLP E_z88 n (sub C_z88 [1,1,1,0,1,0,0,1,1,0,0,1,1,1,0,0,0]) K (qbv out3 held4 many5 s8 s9 s10))=qec (qkg K) n:=by
  funext out3 held4 many5 s8 s9 s10
  exact IH out3 held4 many5 s8 s9 s10
 show _=qvy (qkg K) (qec (qkg K) n) n out3 held4 many5 s8 s9 s10
 rw [← ih]
 kernel_rfl
theorem qqy (K:Ex→Fr→Option AV) (n:Nat) (out3:List UInt8) (held4:Int) (many5:Int) (s8:List UInt8) (s9:Int) (s10:Int):(qnZ n K) (.exit 2) (qbv out3 held4 many5 s8 s9 s10)=qbz (fun out3 held4 many5=>K (.exit 0) (qtJ out3 held4 many5)) (fun out3 held4 many5 s8 s9 s10=>evLP E_z88 n (sub C_z88 [1,1,1,0,1,0,0]) K (qbv out3 held4 many5 s8 s9 s10)) n out3 held4 many5 s8 s9 s10:=by
 kernel_rfl
theorem qxH (K:Ex→Fr→Option AV):∀ (n:Nat) (out3:List UInt8) (held4:Int) (many5:Int) (s8:List UInt8) (s9:Int) (s10:Int),evLP E_z88 n (sub C_z88 [1,1,1,0,1,0,0]) K (qbv out3 held4 many5 s8 s9 s10)=qmy (qfU K) n out3 held4 many5 s8 s9 s10:=by
 intro n
 induction n with
 | zero=>intros; rfl
 | succ n IH =>
 intro out3 held4 many5 s8 s9 s10
 have ih:(fun out3 held4 many5 s8 s9 s10=>evLP E_z88 n (sub C_z88 [1,1,1,0,1,0,0]) K (qbv out3 held4 many5 s8 s9 s10))=qmy (qfU K) n:=by
  funext out3 held4 many5 s8 s9 s10
  exact IH out3 held4 many5 s8 s9 s10
 show _=qcA (qfU K) (qmy (qfU K) n) n out3 held4 many5 s8 s9 s10
 rw [← ih]
 unfold qcA
 rw [show qec (qbz (qfU K) (fun out3 held4 many5 s8 s9 s10=>evLP E_z88 n (sub C_z88 [1,1,1,0,1,0,0]) K (qbv out3 held4 many5 s8 s9 s10)) n) n=(fun out3 held4 many5 s8 s9 s10=>evLP E_z88 n (sub C_z88 [1,1,1,0,1,0,0,1,1,0,0,1,1,1,0,0,0]) (qnZ n K) (qbv out3 held4 many5 s8 s9 s10)) from by
  funext out3 held4 many5 s8 s9 s10
  refine Eq.trans ?_ (qxG (qnZ n K) n out3 held4 many5 s8 s9 s10).symm
  rw [show (qkg (qnZ n K))=(qbz (qfU K) (fun out3 held4 many5 s8 s9 s10=>evLP E_z88 n (sub C_z88 [1,1,1,0,1,0,0]) K (qbv out3 held4 many5 s8 s9 s10)) n) from by
   funext out3 held4 many5 s8 s9 s10
   exact qqy K n out3 held4 many5 s8 s9 s10]
  all_goals kernel_rfl]
 kernel_rfl
theorem qqz (n:Nat) (out3:List UInt8) (held4:Int) (many5:Int):(qoa n) (.exit 0) (qtJ out3 held4 many5)=qcB n out3 held4 many5:=by
 kernel_rfl
theorem qKe (n:Nat) (s0:List UInt8) (o0:Lab):evFnP E_z88 n C_z88 R_z88 [.dat (.sl .byte) s0 o0]=qyL n s0:=by
 unfold qyL
 rw [show qmy (qcB n) n=(fun out3 held4 many5 s8 s9 s10=>evLP E_z88 n (sub C_z88 [1,1,1,0,1,0,0]) (qoa n) (qbv out3 held4 many5 s8 s9 s10)) from by
  funext out3 held4 many5 s8 s9 s10
  refine Eq.trans ?_ (qxH (qoa n) n out3 held4 many5 s8 s9 s10).symm
  rw [show (qfU (qoa n))=(qcB n) from by
   funext out3 held4 many5
   exact qqz n out3 held4 many5]
  all_goals kernel_rfl]
 kernel_rfl
theorem qxI:qe Gc Tryz.prog 88 s_z88:=by
 refine sQ (E:=E_z88) (c:=C_z88) rfl (fun w S hg=>(qb (qtI w S hg) qc)) Tryz.func88 ?_
 intro avs r h
 unfold s_z88 at h
 split at h
 ·obtain ⟨hp,rfl⟩:=Prod.mk.inj h
  obtain ⟨n,hn⟩:=qDt _ hp
  exact ⟨n,_,(qKe n _ _).trans hn,.inl rfl⟩
 ·cases h
theorem qxJ:qe Gc Tryz.prog 47 s_z47:=fun w S hg vals avs r h hS ha=>by
 unfold s_z47 at h
 split at h
 ·rename_i s o
  simp only [Prod.mk.injEq] at h
  obtain ⟨hp,rfl⟩:=h
  obtain ⟨u,rfl,h1⟩:=args1 ha
  obtain ⟨A,cap,rfl,hcap,hA,hcA⟩:=qjl h1
  have hent:(callFunc 47 #[.slice A (List.length s) cap]).run Tryz.prog w=.ok (.enter 47 #[.slice A (List.length s) cap]) w:=enters_of (c:=Tryz.f47.body.getD .skip) Tryz.func47 (by kernel_rfl) (by kernel_rfl) _ _
  refine .inl ⟨hent,(Go.Proofs.lay_walk (S:=S) (qn hp) ?_).mono ?_⟩
  ·intro w' hb
   have hk:Keeps w S w' S:=fun b o hs=>⟨hs,qg (hb.block b (hS b o hs)) o⟩
   have hS':∀ b o,S b o→b < w'.heap.size:=fun b o hs=>Nat.lt_of_lt_of_le (hS b o hs) hb.size
   rcases qxI w' S (qaM w S w' S hk hg) [.slice A (List.length s) cap] [.dat (.sl .byte) s none] _ (show s_z88 _=(true,_) from Prod.ext hp rfl) hS' (qdD ((h1.keeps hk).relab none) (qjp _ _)) with ⟨_,h2⟩ | ⟨v,w2,h2,_⟩
   ·refine h2.mono fun e w2 ⟨v,he,S2,g2,hr⟩=>?_
    obtain ⟨A',cap',rfl,_,hA',hc'⟩:=qjl hr.rd
    refine ⟨A',cap',he,g2.below,hA',fun ad ha' i x hx=>?_⟩
    have hi:=(List.getElem?_eq_some_iff.1 hx).1
    have hx':(z88 s)[i]? = some x:=hx
    have:=hc' ad ha' i hi
    rw [List.getD_eq_getElem?_getD,List.getElem?_map,hx'] at this
    exact this
   ·exfalso
    have:(callFunc 88 #[.slice A (List.length s) cap]).run Tryz.prog w'=.ok (.enter 88 #[.slice A (List.length s) cap]) w':=enters_of (c:=Tryz.f88.body.getD .skip) Tryz.func88 (by kernel_rfl) (by kernel_rfl) _ _
    rw [this] at h2
    cases h2
  ·rintro e w' ⟨v,rfl,hf,hb⟩
   exact ⟨v,rfl,Go.Proofs.res_fresh hS hb hf⟩
 ·cases h
end
end Go.Av
