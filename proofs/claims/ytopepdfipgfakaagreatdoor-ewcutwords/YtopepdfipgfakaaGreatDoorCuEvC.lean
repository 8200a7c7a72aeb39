import Derived.Test.YtopepdfipgfakaaGreatDoorCuEvB
import Derived.Test.YtopepdfipgfakaaGreatDoorCuC
import Derived.Test.YtopepdfipgfakaaGreatDoorProg
import Derived.KernelRfl
namespace Go.Av
set_option linter.unusedSimpArgs false
noncomputable section
open Go.Proofs
set_option maxRecDepth 100000
set_option linter.unusedVariables false
def qiC:EnvP:=eQ [(198,s_z198)] 17 (some [2]) (fun x=>if x=2 then some [5,6,7] else none) (fun x=>if x=0 then some [] else if x=1 then some [5,6,7] else none) nP
def qre:Code:=cO Tryz.f206
def qGQ:Array ResultVar:=Tryz.f206.results
noncomputable def qiD (K:Ex→Fr→Option AV):=fun s2=>K .ret (frOf [(2,(.dat (.int .i64) s2 none))])
def qiE (n:Nat):Ex→Fr→Option AV:=qm 0 (qiC.cutb 0) (kSeq (evCP qiC (evLP qiC n) (sub qre [1,1])) (kFnP qiC qGQ))
def qme (s5:List Int) (s6:Int) (s7:Int):Fr:=frOf [(5,(.dat (.sl (.int .i32)) s5 none)),(6,(.dat (.int .i64) s6 none)),(7,(.dat (.int .i64) s7 none))]
theorem qtM (K:Ex→Fr→Option AV):∀ (n:Nat) (s5:List Int) (s6:Int) (s7:Int),evLP qiC n (sub qre [1,0,1,0,0]) K (qme s5 s6 s7)=qgr (qiD K) (K (.exit 0) (frOf [])) n s5 s6 s7:=by
 intro n
 induction n with
 | zero=>intros; rfl
 | succ n IH =>
 intro s5 s6 s7
 have ih:(fun s5 s6 s7=>evLP qiC n (sub qre [1,0,1,0,0]) K (qme s5 s6 s7))=qgr (qiD K) (K (.exit 0) (frOf [])) n:=by
  funext s5 s6 s7
  exact IH s5 s6 s7
 show _=qbW (qiD K) (K (.exit 0) (frOf [])) (qgr (qiD K) (K (.exit 0) (frOf [])) n) n s5 s6 s7
 rw [← ih]
 kernel_rfl
theorem qmf (n:Nat)  : (qiE n) (.exit 0) (frOf [])=qdo n  := by
 kernel_rfl
theorem qGR (n:Nat) (t0:List Int) (o0:Lab):evFnP qiC n qre qGQ [.dat (.sl (.int .i32)) t0 o0]=qpt n t0:=by
 unfold qpt
 rw [show qgr qgq (qdo n) n=(fun s5 s6 s7=>evLP qiC n (sub qre [1,0,1,0,0]) (qiE n) (qme s5 s6 s7)) from by
  funext s5 s6 s7
  refine Eq.trans ?_ (qtM (qiE n) n s5 s6 s7).symm
  rw [show ((qiE n) (.exit 0) (frOf []))=(qdo n) from by
   exact qmf n ]
  all_goals kernel_rfl]
 kernel_rfl
theorem qtN:qe Gc Tryz.prog 206 s_z206:=by
 refine sQ (E:=qiC) (c:=qre) rfl (fun w S hg=>(qb (qkt w S hg) qc)) Tryz.func206 ?_
 intro avs r h
 unfold s_z206 at h
 split at h
 ·obtain ⟨hp,rfl⟩:=Prod.mk.inj h
  obtain ⟨n,hn⟩:=qAs _ hp
  exact ⟨n,_,(qGR n _ _).trans hn,.inl rfl⟩
 ·cases h
def qiF:EnvP:=eQ [(206,s_z206),(207,s_z207)] 32 (some [2,3]) (fun x=>if x=5 then some [4,15,16,17] else none) (fun x=>if x=0 then some [4] else if x=1 then some [4,15,16,17] else none) nP
def qrf:Code:=cO Tryz.f165
def qGS:Array ResultVar:=Tryz.f165.results
noncomputable def qfY (K:Ex→Fr→Option AV):=fun s4=>K (.exit 0) (frOf [(4,(.dat (.sl .byte) s4 (some (4,5))))])
def qiG (n:Nat):Ex→Fr→Option AV:=qm 0 (qiF.cutb 0) (kSeq (evCP qiF (evLP qiF n) (sub qrf [1,1,1,1])) (kFnP qiF qGS))
def qmg (s4:List UInt8) (s15:List Int) (s16:Int) (s17:Int):Fr:=frOf [(4,(.dat (.sl .byte) s4 (some (4,5)))),(15,(.dat (.sl (.int .i32)) s15 none)),(16,(.dat (.int .i64) s16 none)),(17,(.dat (.int .i64) s17 none))]
theorem qtO (K:Ex→Fr→Option AV):∀ (n:Nat) (s4:List UInt8) (s15:List Int) (s16:Int) (s17:Int),evLP qiF n (sub qrf [1,1,1,0,1,0,0]) K (qmg s4 s15 s16 s17)=qgs (qfY K) n s4 s15 s16 s17:=by
 intro n
 induction n with
 | zero=>intros; rfl
 | succ n IH =>
 intro s4 s15 s16 s17
 have ih:(fun s4 s15 s16 s17=>evLP qiF n (sub qrf [1,1,1,0,1,0,0]) K (qmg s4 s15 s16 s17))=qgs (qfY K) n:=by
  funext s4 s15 s16 s17
  exact IH s4 s15 s16 s17
 show _=qbX (qfY K) (qgs (qfY K) n) n s4 s15 s16 s17
 rw [← ih]
 kernel_rfl
theorem qmh (n:Nat) (s4:List UInt8):(qiG n) (.exit 0) (frOf [(4,(.dat (.sl .byte) s4 (some (4,5))))])=qbY n s4:=by
 kernel_rfl
theorem qGT (n:Nat) (t0:List Int) (o0:Lab):evFnP qiF n qrf qGS [.dat (.sl (.int .i32)) t0 o0]=qpu n t0:=by
 unfold qpu
 rw [show qgs (qbY n) n=(fun s4 s15 s16 s17=>evLP qiF n (sub qrf [1,1,1,0,1,0,0]) (qiG n) (qmg s4 s15 s16 s17)) from by
  funext s4 s15 s16 s17
  refine Eq.trans ?_ (qtO (qiG n) n s4 s15 s16 s17).symm
  rw [show (qfY (qiG n))=(qbY n) from by
   funext s4
   exact qmh n s4]
  all_goals kernel_rfl]
 kernel_rfl
theorem qtP:qe Gc Tryz.prog 165 s_z165:=by
 refine sQ (E:=qiF) (c:=qrf) rfl (fun w S hg=>(qb (qtN w S hg) (qb (qks w S hg) qc))) Tryz.func165 ?_
 intro avs r h
 unfold s_z165 at h
 split at h
 ·obtain ⟨hp,rfl⟩:=Prod.mk.inj h
  obtain ⟨n,hn⟩:=qAP _ hp
  exact ⟨n,_,(qGT n _ _).trans hn,.inl rfl⟩
 ·cases h
def qiH:EnvP:=eQ [(196,s_z196)] 17 (some [2]) (fun x=>if x=2 then some [0,5,6] else none) (fun x=>if x=0 then some [] else if x=1 then some [0,5,6] else none) nP
def qrg:Code:=cO Tryz.f208
def qGU:Array ResultVar:=Tryz.f208.results
noncomputable def qiI (K:Ex→Fr→Option AV):=fun s2=>K .ret (frOf [(2,(.dat (.int .i64) s2 none))])
def qiJ (n:Nat):Ex→Fr→Option AV:=qm 0 (qiH.cutb 0) (kSeq (evCP qiH (evLP qiH n) (sub qrg [1,1])) (kFnP qiH qGU))
def qmi (t0:List Int) (s5:Int) (s6:Int):Fr:=frOf [(0,(.dat (.sl (.int .i32)) t0 none)),(5,(.dat (.int .i64) s5 none)),(6,(.dat (.int .i64) s6 none))]
theorem qtQ (K:Ex→Fr→Option AV):∀ (n:Nat) (t0:List Int) (s5:Int) (s6:Int),evLP qiH n (sub qrg [1,0,1,0,0]) K (qmi t0 s5 s6)=qgu (qiI K) (K (.exit 0) (frOf [])) n t0 s5 s6:=by
 intro n
 induction n with
 | zero=>intros; rfl
 | succ n IH =>
 intro t0 s5 s6
 have ih:(fun t0 s5 s6=>evLP qiH n (sub qrg [1,0,1,0,0]) K (qmi t0 s5 s6))=qgu (qiI K) (K (.exit 0) (frOf [])) n:=by
  funext t0 s5 s6
  exact IH t0 s5 s6
 show _=qbZ (qiI K) (K (.exit 0) (frOf [])) (qgu (qiI K) (K (.exit 0) (frOf [])) n) n t0 s5 s6
 rw [← ih]
 kernel_rfl
theorem qmj (n:Nat)  : (qiJ n) (.exit 0) (frOf [])=qdp n  := by
 kernel_rfl
theorem qGV (n:Nat) (t0:List Int) (o0:Lab):evFnP qiH n qrg qGU [.dat (.sl (.int .i32)) t0 o0]=qpv n t0:=by
 unfold qpv
 rw [show qgu qgt (qdp n) n=(fun t0 s5 s6=>evLP qiH n (sub qrg [1,0,1,0,0]) (qiJ n) (qmi t0 s5 s6)) from by
  funext t0 s5 s6
  refine Eq.trans ?_ (qtQ (qiJ n) n t0 s5 s6).symm
  rw [show ((qiJ n) (.exit 0) (frOf []))=(qdp n) from by
   exact qmj n ]
  all_goals kernel_rfl]
 kernel_rfl
theorem qtR:qe Gc Tryz.prog 208 s_z208:=by
 refine sQ (E:=qiH) (c:=qrg) rfl (fun w S hg=>(qb (qkq w S hg) qc)) Tryz.func208 ?_
 intro avs r h
 unfold s_z208 at h
 split at h
 ·obtain ⟨hp,rfl⟩:=Prod.mk.inj h
  obtain ⟨n,hn⟩:=qAt _ hp
  exact ⟨n,_,(qGV n _ _).trans hn,.inl rfl⟩
 ·cases h
def qiK:EnvP:=eQ [(208,s_z208)] 27 (some [2,3]) (fun x=>if x=5 then some [4,13,14,15] else none) (fun x=>if x=0 then some [4] else if x=1 then some [4,13,14,15] else none) (fun x=>if x=12 then some (.psl 5 (.leaf .byte)) else none)
def qrh:Code:=cO Tryz.f166
def qGW:Array ResultVar:=Tryz.f166.results
noncomputable def qfZ (K:Ex→Fr→Option AV):=fun s4=>K (.exit 0) (frOf [(4,(.pv (.psl 5 (.leaf .byte)) s4 none))])
def qiL (n:Nat):Ex→Fr→Option AV:=qm 0 (qiK.cutb 0) (kSeq (evCP qiK (evLP qiK n) (sub qrh [1,1,1,1])) (kFnP qiK qGW))
def qmk (s4:List UInt8) (s13:List Int) (s14:Int) (s15:Int):Fr:=frOf [(4,(.pv (.psl 5 (.leaf .byte)) s4 none)),(13,(.dat (.sl (.int .i32)) s13 none)),(14,(.dat (.int .i64) s14 none)),(15,(.dat (.int .i64) s15 none))]
theorem qtS (K:Ex→Fr→Option AV):∀ (n:Nat) (s4:List UInt8) (s13:List Int) (s14:Int) (s15:Int),evLP qiK n (sub qrh [1,1,1,0,1,0,0]) K (qmk s4 s13 s14 s15)=qdq (qfZ K) n s4 s13 s14 s15:=by
 intro n
 induction n with
 | zero=>intros; rfl
 | succ n IH =>
 intro s4 s13 s14 s15
 have ih:(fun s4 s13 s14 s15=>evLP qiK n (sub qrh [1,1,1,0,1,0,0]) K (qmk s4 s13 s14 s15))=qdq (qfZ K) n:=by
  funext s4 s13 s14 s15
  exact IH s4 s13 s14 s15
 show _=qca (qfZ K) (qdq (qfZ K) n) n s4 s13 s14 s15
 rw [← ih]
 kernel_rfl
theorem qml (n:Nat) (s4:List UInt8):(qiL n) (.exit 0) (frOf [(4,(.pv (.psl 5 (.leaf .byte)) s4 none))])=qcb n s4:=by
 kernel_rfl
theorem qGX (n:Nat) (t0:List Int) (o0:Lab):evFnP qiK n qrh qGW [.dat (.sl (.int .i32)) t0 o0]=qpw n t0:=by
 unfold qpw
 rw [show qdq (qcb n) n=(fun s4 s13 s14 s15=>evLP qiK n (sub qrh [1,1,1,0,1,0,0]) (qiL n) (qmk s4 s13 s14 s15)) from by
  funext s4 s13 s14 s15
  refine Eq.trans ?_ (qtS (qiL n) n s4 s13 s14 s15).symm
  rw [show (qfZ (qiL n))=(qcb n) from by
   funext s4
   exact qml n s4]
  all_goals kernel_rfl]
 kernel_rfl
theorem qtT:qe Gc Tryz.prog 166 s_z166:=by
 refine sQ (E:=qiK) (c:=qrh) rfl (fun w S hg=>(qb (qtR w S hg) qc)) Tryz.func166 ?_
 intro avs r h
 unfold s_z166 at h
 split at h
 ·obtain ⟨hp,rfl⟩:=Prod.mk.inj h
  obtain ⟨n,hn⟩:=qAF _ hp
  exact ⟨n,_,(qGX n _ _).trans hn,.inl rfl⟩
 ·cases h
def qGY:EnvP:=eQ [(161,s_z161),(162,s_z162),(163,s_z163),(164,s_z164),(165,s_z165),(166,s_z166)] 38 (some [1000004,5]) nC (fun x=>if x=0 then some [0,1] else if x=1 then some [1] else none) nP
def qGZ:Code:=cO Tryz.f120
def qKA:Array ResultVar:=Tryz.f120.results
theorem qHa (n:Nat) (charset0:Int) (o0:Lab) (t1:List Int) (o1:Lab):evFnP qGY n qGZ qKA [.dat (.int .i64) charset0 o0,.dat (.sl (.int .i32)) t1 o1]=qvN n charset0 t1:=by
 kernel_rfl
theorem qkv:qe Gc Tryz.prog 120 s_z120:=by
 refine sQ (E:=qGY) (c:=qGZ) rfl (fun w S hg=>(qb (qkp w S hg) (qb (qtz w S hg) (qb (qtJ w S hg) (qb (qtL w S hg) (qb (qtP w S hg) (qb (qtT w S hg) qc))))))) Tryz.func120 ?_
 intro avs r h
 unfold s_z120 at h
 split at h
 ·obtain ⟨hp,rfl⟩:=Prod.mk.inj h
  obtain ⟨n,hn⟩:=qAR _ _ hp
  exact ⟨n,_,(qHa n _ _ _ _).trans hn,.inl rfl⟩
 ·cases h
def qHb:EnvP:=eQ [] 46 (some [2]) nC (fun x=>if x=0 then some [3] else none) nP
def qHc:Code:=cO Tryz.f214
def qKB:Array ResultVar:=Tryz.f214.results
theorem qHd (n:Nat) (c0:UInt8) (o0:Lab):evFnP qHb n qHc qKB [.dat .byte c0 o0]=qvO n c0:=by
 kernel_rfl
theorem qtU:qe Gc Tryz.prog 214 s_z214:=by
 refine sQ (E:=qHb) (c:=qHc) rfl (fun w S hg=>qc) Tryz.func214 ?_
 intro avs r h
 unfold s_z214 at h
 split at h <;> cases h
 obtain ⟨n,hn⟩:=qzP _
 exact ⟨n,_,(qHd n _ _).trans hn,.inl rfl⟩
def qHe:EnvP:=eQ [(241,s_z241)] 8 (some [4]) nC nC nP
def qHf:Code:=cO Tryz.f229
def qKC:Array ResultVar:=Tryz.f229.results
theorem qHg (n:Nat) (s0:List UInt8) (o0:Lab) (c1:UInt8) (o1:Lab):evFnP qHe n qHf qKC [.dat .str s0 o0,.dat .byte c1 o1]=qBK n s0 c1:=by
 kernel_rfl
theorem qtV:qe Gc Tryz.prog 229 s_z229:=by
 refine sQ (E:=qHe) (c:=qHf) rfl (fun w S hg=>(qb (qtm w S hg) qc)) Tryz.func229 ?_
 intro avs r h
 unfold s_z229 at h
 split at h <;> cases h
 obtain ⟨n,hn⟩:=qzQ _ _
 exact ⟨n,_,(qHg n _ _ _ _).trans hn,.inl rfl⟩
def qHh:EnvP:=eQ [(229,s_z229)] 8 (some [4]) nC nC nP
def qHi:Code:=cO Tryz.f192
def qKD:Array ResultVar:=Tryz.f192.results
theorem qHj (n:Nat) (s0:List UInt8) (o0:Lab) (c1:UInt8) (o1:Lab):evFnP qHh n qHi qKD [.dat .str s0 o0,.dat .byte c1 o1]=qBL n s0 c1:=by
 kernel_rfl
theorem qtW:qe Gc Tryz.prog 192 s_z192:=by
 refine sQ (E:=qHh) (c:=qHi) rfl (fun w S hg=>(qb (qtV w S hg) qc)) Tryz.func192 ?_
 intro avs r h
 unfold s_z192 at h
 split at h <;> cases h
 obtain ⟨n,hn⟩:=qzR _ _
 exact ⟨n,_,(qHj n _ _ _ _).trans hn,.inl rfl⟩
def qHk:EnvP:=eQ [(192,s_z192)] 9 (some [4]) nC nC nP
def qHl:Code:=cO Tryz.f215
def qKE:Array ResultVar:=Tryz.f215.results
theorem qHm (n:Nat) (s0:List UInt8) (o0:Lab) (c1:UInt8) (o1:Lab):evFnP qHk n qHl qKE [.dat .str s0 o0,.dat .byte c1 o1]=qBM n s0 c1:=by
 kernel_rfl
theorem qtX:qe Gc Tryz.prog 215 s_z215:=by
 refine sQ (E:=qHk) (c:=qHl) rfl (fun w S hg=>(qb (qtW w S hg) qc)) Tryz.func215 ?_
 intro avs r h
 unfold s_z215 at h
 split at h <;> cases h
 obtain ⟨n,hn⟩:=qzS _ _
 exact ⟨n,_,(qHm n _ _ _ _).trans hn,.inl rfl⟩
def qHn:EnvP:=eQ [(214,s_z214),(215,s_z215)] 35 (some [2]) nC nC nP
def qHo:Code:=cO Tryz.f180
def qKF:Array ResultVar:=Tryz.f180.results
theorem qHp (n:Nat) (c0:UInt8) (o0:Lab):evFnP qHn n qHo qKF [.dat .byte c0 o0]=qvS n c0:=by
 kernel_rfl
theorem qtY:qe Gc Tryz.prog 180 s_z180:=by
 refine sQ (E:=qHn) (c:=qHo) rfl (fun w S hg=>(qb (qtU w S hg) (qb (qtX w S hg) qc))) Tryz.func180 ?_
 intro avs r h
 unfold s_z180 at h
 split at h <;> cases h
 obtain ⟨n,hn⟩:=qzT _
 exact ⟨n,_,(qHp n _ _).trans hn,.inl rfl⟩
def qHq:EnvP:=eQ [(180,s_z180)] 10 (some [4]) nC nC nP
def qHr:Code:=cO Tryz.f129
def qKG:Array ResultVar:=Tryz.f129.results
theorem qHs (n:Nat) (c0:UInt8) (o0:Lab) (kinds1:Int) (o1:Lab):evFnP qHq n qHr qKG [.dat .byte c0 o0,.dat (.int .i64) kinds1 o1]=qBN n c0 kinds1:=by
 kernel_rfl
theorem qtZ:qe Gc Tryz.prog 129 s_z129:=by
 refine sQ (E:=qHq) (c:=qHr) rfl (fun w S hg=>(qb (qtY w S hg) qc)) Tryz.func129 ?_
 intro avs r h
 unfold s_z129 at h
 split at h <;> cases h
 obtain ⟨n,hn⟩:=qzU _ _
 exact ⟨n,_,(qHs n _ _ _ _).trans hn,.inl rfl⟩
def E_z84:EnvP:=eQ [(129,s_z129)] 9 (some [2]) nC nC nP
def C_z84:Code:=cO Tryz.f84
def R_z84:Array ResultVar:=Tryz.f84.results
theorem qKH (n:Nat) (c0:UInt8) (o0:Lab):evFnP E_z84 n C_z84 R_z84 [.dat .byte c0 o0]=qDv n c0:=by
 kernel_rfl
theorem qol:qe Gc Tryz.prog 84 s_z84:=by
 refine sQ (E:=E_z84) (c:=C_z84) rfl (fun w S hg=>(qb (qtZ w S hg) qc)) Tryz.func84 ?_
 intro avs r h
 unfold s_z84 at h
 split at h <;> cases h
 obtain ⟨n,hn⟩:=qEh _
 exact ⟨n,_,(qKH n _ _).trans hn,.inl rfl⟩
def E_z83:EnvP:=eQ [(84,s_z84)] 18 (some [2]) (fun x=>if x=3 then some [3,6,7,8] else none) (fun x=>if x=0 then some [3] else if x=1 then some [3,6,7,8] else none) nP
def C_z83:Code:=cO Tryz.f83
def R_z83:Array ResultVar:=Tryz.f83.results
noncomputable def qkw (K:Ex→Fr→Option AV):=fun n3=>K (.exit 0) (frOf [(3,(.dat (.int .i64) n3 none))])
def qom (n:Nat):Ex→Fr→Option AV:=qm 0 (E_z83.cutb 0) (kSeq (evCP E_z83 (evLP E_z83 n) (sub C_z83 [1,1,1])) (kFnP E_z83 R_z83))
def qua (n3:Int) (s6:List UInt8) (s7:Int) (s8:Int):Fr:=frOf [(3,(.dat (.int .i64) n3 none)),(6,(.dat (.sl .byte) s6 none)),(7,(.dat (.int .i64) s7 none)),(8,(.dat (.int .i64) s8 none))]
theorem qyq (K:Ex→Fr→Option AV):∀ (n:Nat) (n3:Int) (s6:List UInt8) (s7:Int) (s8:Int),evLP E_z83 n (sub C_z83 [1,1,0,1,0,0]) K (qua n3 s6 s7 s8)=qmM (qkw K) n n3 s6 s7 s8:=by
 intro n
 induction n with
 | zero=>intros; rfl
 | succ n IH =>
 intro n3 s6 s7 s8
 have ih:(fun n3 s6 s7 s8=>evLP E_z83 n (sub C_z83 [1,1,0,1,0,0]) K (qua n3 s6 s7 s8))=qmM (qkw K) n:=by
  funext n3 s6 s7 s8
  exact IH n3 s6 s7 s8
 show _=qed (qkw K) (qmM (qkw K) n) n n3 s6 s7 s8
 rw [← ih]
 kernel_rfl
theorem qri (n:Nat) (n3:Int):(qom n) (.exit 0) (frOf [(3,(.dat (.int .i64) n3 none))])=qgv n n3:=by
 kernel_rfl
theorem qKI (n:Nat) (s0:List UInt8) (o0:Lab):evFnP E_z83 n C_z83 R_z83 [.dat (.sl .byte) s0 o0]=qzA n s0:=by
 unfold qzA
 rw [show qmM (qgv n) n=(fun n3 s6 s7 s8=>evLP E_z83 n (sub C_z83 [1,1,0,1,0,0]) (qom n) (qua n3 s6 s7 s8)) from by
  funext n3 s6 s7 s8
  refine Eq.trans ?_ (qyq (qom n) n n3 s6 s7 s8).symm
  rw [show (qkw (qom n))=(qgv n) from by
   funext n3
   exact qri n n3]
  all_goals kernel_rfl]
 kernel_rfl
theorem qon:qe Gc Tryz.prog 83 s_z83:=by
 refine sQ (E:=E_z83) (c:=C_z83) rfl (fun w S hg=>(qb (qol w S hg) qc)) Tryz.func83 ?_
 intro avs r h
 unfold s_z83 at h
 split at h
 ·obtain ⟨hp,rfl⟩:=Prod.mk.inj h
  obtain ⟨n,hn⟩:=qEi _ hp
  exact ⟨n,_,(qKI n _ _).trans hn,.inl rfl⟩
 ·cases h
def E_z87:EnvP:=eQ [] 10 (some [2]) nC nC nP
def C_z87:Code:=cO Tryz.f87
def R_z87:Array ResultVar:=Tryz.f87.results
theorem qKJ (n:Nat) (n0:Int) (o0:Lab):evFnP E_z87 n C_z87 R_z87 [.dat (.int .i64) n0 o0]=qDw n n0:=by
 kernel_rfl
theorem qyr:qe Gc Tryz.prog 87 s_z87:=by
 refine sQ (E:=E_z87) (c:=C_z87) rfl (fun w S hg=>qc) Tryz.func87 ?_
 intro avs r h
 unfold s_z87 at h
 split at h <;> cases h
 obtain ⟨n,hn⟩:=qEj _
 exact ⟨n,_,(qKJ n _ _).trans hn,.inl rfl⟩
end
end Go.Av
