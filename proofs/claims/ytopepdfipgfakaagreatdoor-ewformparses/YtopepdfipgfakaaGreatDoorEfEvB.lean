import Derived.Test.YtopepdfipgfakaaGreatDoorEfEvA
import Derived.Test.YtopepdfipgfakaaGreatDoorEfLayX
import Derived.Test.YtopepdfipgfakaaGreatDoorProg
import Derived.KernelRfl
namespace Go.Av
set_option linter.unusedSimpArgs false
noncomputable section
open Go.Proofs
set_option maxRecDepth 100000
set_option linter.unusedVariables false
def qyZ:EnvP:=eQ [(241,s_z241)] 8 (some [4]) nC nC nP
def qza:Code:=cO Tryz.f229
def qBS:Array ResultVar:=Tryz.f229.results
theorem qzb (n:Nat) (s0:List UInt8) (o0:Lab) (c1:UInt8) (o1:Lab):evFnP qyZ n qza qBS [.dat .str s0 o0,.dat .byte c1 o1]=quX n s0 c1:=by
 kernel_rfl
theorem qot:qg G Tryz.prog 229 s_z229:=by
 refine sQ (E:=qyZ) (c:=qza) rfl (fun w S hg=>(qb (qog w S hg) qd)) Tryz.func229 ?_
 intro avs r h
 unfold s_z229 at h
 split at h <;> cases h
 obtain ⟨n,hn⟩:=qtZ _ _
 exact ⟨n,_,(qzb n _ _ _ _).trans hn,.inl rfl⟩
def qzc:EnvP:=eQ [(229,s_z229)] 8 (some [4]) nC nC nP
def qzd:Code:=cO Tryz.f192
def qBT:Array ResultVar:=Tryz.f192.results
theorem qze (n:Nat) (s0:List UInt8) (o0:Lab) (c1:UInt8) (o1:Lab):evFnP qzc n qzd qBT [.dat .str s0 o0,.dat .byte c1 o1]=quY n s0 c1:=by
 kernel_rfl
theorem qiq:qg G Tryz.prog 192 s_z192:=by
 refine sQ (E:=qzc) (c:=qzd) rfl (fun w S hg=>(qb (qot w S hg) qd)) Tryz.func192 ?_
 intro avs r h
 unfold s_z192 at h
 split at h <;> cases h
 obtain ⟨n,hn⟩:=qua _ _
 exact ⟨n,_,(qze n _ _ _ _).trans hn,.inl rfl⟩
def qzf:EnvP:=eQ [(192,s_z192)] 9 (some [4]) nC nC nP
def qzg:Code:=cO Tryz.f215
def qBU:Array ResultVar:=Tryz.f215.results
theorem qzh (n:Nat) (s0:List UInt8) (o0:Lab) (c1:UInt8) (o1:Lab):evFnP qzf n qzg qBU [.dat .str s0 o0,.dat .byte c1 o1]=quZ n s0 c1:=by
 kernel_rfl
theorem qou:qg G Tryz.prog 215 s_z215:=by
 refine sQ (E:=qzf) (c:=qzg) rfl (fun w S hg=>(qb (qiq w S hg) qd)) Tryz.func215 ?_
 intro avs r h
 unfold s_z215 at h
 split at h <;> cases h
 obtain ⟨n,hn⟩:=qub _ _
 exact ⟨n,_,(qzh n _ _ _ _).trans hn,.inl rfl⟩
def qzi:EnvP:=eQ [(214,s_z214),(215,s_z215)] 35 (some [2]) nC nC nP
def qzj:Code:=cO Tryz.f180
def qBV:Array ResultVar:=Tryz.f180.results
theorem qzk (n:Nat) (c0:UInt8) (o0:Lab):evFnP qzi n qzj qBV [.dat .byte c0 o0]=qqg n c0:=by
 kernel_rfl
theorem qov:qg G Tryz.prog 180 s_z180:=by
 refine sQ (E:=qzi) (c:=qzj) rfl (fun w S hg=>(qb (qos w S hg) (qb (qou w S hg) qd))) Tryz.func180 ?_
 intro avs r h
 unfold s_z180 at h
 split at h <;> cases h
 obtain ⟨n,hn⟩:=quc _
 exact ⟨n,_,(qzk n _ _).trans hn,.inl rfl⟩
def qzl:EnvP:=eQ [(180,s_z180)] 10 (some [4]) nC nC nP
def qzm:Code:=cO Tryz.f129
def qBW:Array ResultVar:=Tryz.f129.results
theorem qzn (n:Nat) (c0:UInt8) (o0:Lab) (kinds1:Int) (o1:Lab):evFnP qzl n qzm qBW [.dat .byte c0 o0,.dat (.int .i64) kinds1 o1]=qva n c0 kinds1:=by
 kernel_rfl
theorem qfy:qg G Tryz.prog 129 s_z129:=by
 refine sQ (E:=qzl) (c:=qzm) rfl (fun w S hg=>(qb (qov w S hg) qd)) Tryz.func129 ?_
 intro avs r h
 unfold s_z129 at h
 split at h <;> cases h
 obtain ⟨n,hn⟩:=qud _ _
 exact ⟨n,_,(qzn n _ _ _ _).trans hn,.inl rfl⟩
def qaS:EnvP:=eQ [(129,s_z129)] 21 (some [4]) (fun x=>if x=3 then some [1,5,8,9,10] else none) (fun x=>if x=0 then some [5] else if x=1 then some [1,5,8,9,10] else none) nP
def qhj:Code:=cO Tryz.f127
def qow:Array ResultVar:=Tryz.f127.results
theorem qox (K:Ex→Fr→Option AV):∀ (n:Nat) (kinds1:Int) (n5:Int) (s8:List UInt8) (s9:Int) (s10:Int),evLP qaS n (sub qhj [1,1,0,1,0,0]) K (frOf [(1,(.dat (.int .i64) kinds1 none)),(5,(.dat (.int .i64) n5 none)),(8,(.dat (.sl .byte) s8 none)),(9,(.dat (.int .i64) s9 none)),(10,(.dat (.int .i64) s10 none))])=qdn (fun n5=>K (.exit 0) (frOf [(5,(.dat (.int .i64) n5 none))])) n kinds1 n5 s8 s9 s10:=by
 intro n
 induction n with
 | zero=>intros; rfl
 | succ n IH =>
 intro kinds1 n5 s8 s9 s10
 have ih:(fun kinds1 n5 s8 s9 s10=>evLP qaS n (sub qhj [1,1,0,1,0,0]) K (frOf [(1,(.dat (.int .i64) kinds1 none)),(5,(.dat (.int .i64) n5 none)),(8,(.dat (.sl .byte) s8 none)),(9,(.dat (.int .i64) s9 none)),(10,(.dat (.int .i64) s10 none))]))=qdn (fun n5=>K (.exit 0) (frOf [(5,(.dat (.int .i64) n5 none))])) n:=by
  funext kinds1 n5 s8 s9 s10
  exact IH kinds1 n5 s8 s9 s10
 show _=qcg (fun n5=>K (.exit 0) (frOf [(5,(.dat (.int .i64) n5 none))])) (qdn (fun n5=>K (.exit 0) (frOf [(5,(.dat (.int .i64) n5 none))])) n) n kinds1 n5 s8 s9 s10
 rw [← ih]
 kernel_rfl
theorem qjA (n:Nat) (n5:Int):(qc 0 (qaS.cutb 0) (kSeq (evCP qaS (evLP qaS n) (sub qhj [1,1,1])) (kFnP qaS qow))) (.exit 0) (frOf [(5,(.dat (.int .i64) n5 none))])=qdo n n5:=by
 kernel_rfl
theorem qzo (n:Nat) (s0:List UInt8) (o0:Lab) (kinds1:Int) (o1:Lab):evFnP qaS n qhj qow [.dat (.sl .byte) s0 o0,.dat (.int .i64) kinds1 o1]=qll n s0 kinds1:=by
 unfold qll
 rw [show qdn (qdo n) n=(fun kinds1 n5 s8 s9 s10=>evLP qaS n (sub qhj [1,1,0,1,0,0]) (qc 0 (qaS.cutb 0) (kSeq (evCP qaS (evLP qaS n) (sub qhj [1,1,1])) (kFnP qaS qow))) (frOf [(1,(.dat (.int .i64) kinds1 none)),(5,(.dat (.int .i64) n5 none)),(8,(.dat (.sl .byte) s8 none)),(9,(.dat (.int .i64) s9 none)),(10,(.dat (.int .i64) s10 none))])) from by
  funext kinds1 n5 s8 s9 s10
  refine Eq.trans ?_ (qox (qc 0 (qaS.cutb 0) (kSeq (evCP qaS (evLP qaS n) (sub qhj [1,1,1])) (kFnP qaS qow))) n kinds1 n5 s8 s9 s10).symm
  rw [show (fun n5=>(qc 0 (qaS.cutb 0) (kSeq (evCP qaS (evLP qaS n) (sub qhj [1,1,1])) (kFnP qaS qow))) (.exit 0) (frOf [(5,(.dat (.int .i64) n5 none))]))=(qdo n) from by
   funext n5
   exact qjA n n5]
  all_goals kernel_rfl]
 kernel_rfl
theorem qoy:qg G Tryz.prog 127 s_z127:=by
 refine sQ (E:=qaS) (c:=qhj) rfl (fun w S hg=>(qb (qfy w S hg) qd)) Tryz.func127 ?_
 intro avs r h
 unfold s_z127 at h
 split at h
 ·obtain ⟨hp,rfl⟩:=Prod.mk.inj h
  obtain ⟨n,hn⟩:=quk _ _ hp
  exact ⟨n,_,(qzo n _ _ _ _).trans hn,.inl rfl⟩
 ·cases h
def E_z80:EnvP:=eQ [(127,s_z127)] 11 (some [4]) nC nC nP
def C_z80:Code:=cO Tryz.f80
def R_z80:Array ResultVar:=Tryz.f80.results
theorem qBX (n:Nat) (s0:List UInt8) (o0:Lab) (kinds1:Int) (o1:Lab):evFnP E_z80 n C_z80 R_z80 [.dat (.sl .byte) s0 o0,.dat (.int .i64) kinds1 o1]=qxd n s0 kinds1:=by
 kernel_rfl
theorem qst:qg G Tryz.prog 80 s_z80:=by
 refine sQ (E:=E_z80) (c:=C_z80) rfl (fun w S hg=>(qb (qoy w S hg) qd)) Tryz.func80 ?_
 intro avs r h
 unfold s_z80 at h
 split at h
 ·obtain ⟨hp,rfl⟩:=Prod.mk.inj h
  obtain ⟨n,hn⟩:=qxD _ _ hp
  exact ⟨n,_,(qBX n _ _ _ _).trans hn,.inl rfl⟩
 ·cases h
def E_z40:EnvP:=eQ [(80,s_z80)] 13 (some [4]) nC nC nP
def C_z40:Code:=cO Tryz.f40
def R_z40:Array ResultVar:=Tryz.f40.results
theorem qBY (n:Nat) (s0:List UInt8) (o0:Lab) (kinds1:Int) (o1:Lab):evFnP E_z40 n C_z40 R_z40 [.dat (.sl .byte) s0 o0,.dat (.int .i64) kinds1 o1]=qxe n s0 kinds1:=by
 kernel_rfl
theorem qsu:qg G Tryz.prog 40 s_z40:=by
 refine sQ (E:=E_z40) (c:=C_z40) rfl (fun w S hg=>(qb (qst w S hg) qd)) Tryz.func40 ?_
 intro avs r h
 unfold s_z40 at h
 split at h
 ·obtain ⟨hp,rfl⟩:=Prod.mk.inj h
  obtain ⟨n,hn⟩:=qxK _ _ hp
  exact ⟨n,_,(qBY n _ _ _ _).trans hn,.inl rfl⟩
 ·cases h
def E_z11:EnvP:=eQ [(37,s_z37),(38,s_z38),(39,s_z39),(40,s_z40)] 64 (some [2,3]) nC (fun x=>if x=0 then some [2,5] else none) nP
def C_z11:Code:=cO Tryz.f11
def R_z11:Array ResultVar:=Tryz.f11.results
theorem qBZ (n:Nat) (s0:List UInt8) (o0:Lab):evFnP E_z11 n C_z11 R_z11 [.dat (.sl .byte) s0 o0]=qxf n s0:=by
 kernel_rfl
theorem qhk:qg G Tryz.prog 11 s_z11:=by
 refine sQ (E:=E_z11) (c:=C_z11) rfl (fun w S hg=>(qb (qsq w S hg) (qb (qeK w S hg) (qb (qss w S hg) (qb (qsu w S hg) qd))))) Tryz.func11 ?_
 intro avs r h
 unfold s_z11 at h
 split at h
 ·obtain ⟨hp,rfl⟩:=Prod.mk.inj h
  obtain ⟨n,hn⟩:=qxM _ hp
  exact ⟨n,_,(qBZ n _ _).trans hn,.inl rfl⟩
 ·cases h
def E_z14:EnvP:=eQ [(11,s_z11)] 12 (some [2]) nC nC nP
def C_z14:Code:=cO Tryz.f14
def R_z14:Array ResultVar:=Tryz.f14.results
theorem qCa (n:Nat) (s0:List UInt8) (o0:Lab):evFnP E_z14 n C_z14 R_z14 [.dat (.sl .byte) s0 o0]=qxg n s0:=by
 kernel_rfl
theorem qkS:qg G Tryz.prog 14 s_z14:=by
 refine sQ (E:=E_z14) (c:=C_z14) rfl (fun w S hg=>(qb (qhk w S hg) qd)) Tryz.func14 ?_
 intro avs r h
 unfold s_z14 at h
 split at h
 ·obtain ⟨hp,rfl⟩:=Prod.mk.inj h
  obtain ⟨n,hn⟩:=qxN _ hp
  exact ⟨n,_,(qCa n _ _).trans hn,.inl rfl⟩
 ·cases h
def E_z44:EnvP:=eQ [] 9 (some [2]) nC nC nP
def C_z44:Code:=cO Tryz.f44
def R_z44:Array ResultVar:=Tryz.f44.results
theorem qCb (n:Nat) (n0:Int) (o0:Lab):evFnP E_z44 n C_z44 R_z44 [.dat (.int .i64) n0 o0]=qxh n n0:=by
 kernel_rfl
theorem qkT:qg G Tryz.prog 44 s_z44:=by
 refine sQ (E:=E_z44) (c:=C_z44) rfl (fun w S hg=>qd) Tryz.func44 ?_
 intro avs r h
 unfold s_z44 at h
 split at h <;> cases h
 obtain ⟨n,hn⟩:=qxX _
 exact ⟨n,_,(qCb n _ _).trans hn,.inl rfl⟩
def E_z45:EnvP:=eQ [] 8 (some [2]) nC (fun x=>if x=0 then some [] else none) nP
def C_z45:Code:=cO Tryz.f45
def R_z45:Array ResultVar:=Tryz.f45.results
theorem qCc (n:Nat) (n0:Int) (o0:Lab):evFnP E_z45 n C_z45 R_z45 [.dat (.int .i64) n0 o0]=qxi n n0:=by
 kernel_rfl
theorem qkU:qg G Tryz.prog 45 s_z45:=by
 refine sQ (E:=E_z45) (c:=C_z45) rfl (fun w S hg=>qd) Tryz.func45 ?_
 intro avs r h
 unfold s_z45 at h
 split at h <;> cases h
 obtain ⟨n,hn⟩:=qxY _
 exact ⟨n,_,(qCc n _ _).trans hn,.inl rfl⟩
def E_z84:EnvP:=eQ [(129,s_z129)] 9 (some [2]) nC nC nP
def C_z84:Code:=cO Tryz.f84
def R_z84:Array ResultVar:=Tryz.f84.results
theorem qCd (n:Nat) (c0:UInt8) (o0:Lab):evFnP E_z84 n C_z84 R_z84 [.dat .byte c0 o0]=qxj n c0:=by
 kernel_rfl
theorem qkV:qg G Tryz.prog 84 s_z84:=by
 refine sQ (E:=E_z84) (c:=C_z84) rfl (fun w S hg=>(qb (qfy w S hg) qd)) Tryz.func84 ?_
 intro avs r h
 unfold s_z84 at h
 split at h <;> cases h
 obtain ⟨n,hn⟩:=qyb _
 exact ⟨n,_,(qCd n _ _).trans hn,.inl rfl⟩
def E_z83:EnvP:=eQ [(84,s_z84)] 18 (some [2]) (fun x=>if x=3 then some [3,6,7,8] else none) (fun x=>if x=0 then some [3] else if x=1 then some [3,6,7,8] else none) nP
def C_z83:Code:=cO Tryz.f83
def R_z83:Array ResultVar:=Tryz.f83.results
theorem qsv (K:Ex→Fr→Option AV):∀ (n:Nat) (n3:Int) (s6:List UInt8) (s7:Int) (s8:Int),evLP E_z83 n (sub C_z83 [1,1,0,1,0,0]) K (frOf [(3,(.dat (.int .i64) n3 none)),(6,(.dat (.sl .byte) s6 none)),(7,(.dat (.int .i64) s7 none)),(8,(.dat (.int .i64) s8 none))])=qjS (fun n3=>K (.exit 0) (frOf [(3,(.dat (.int .i64) n3 none))])) n n3 s6 s7 s8:=by
 intro n
 induction n with
 | zero=>intros; rfl
 | succ n IH =>
 intro n3 s6 s7 s8
 have ih:(fun n3 s6 s7 s8=>evLP E_z83 n (sub C_z83 [1,1,0,1,0,0]) K (frOf [(3,(.dat (.int .i64) n3 none)),(6,(.dat (.sl .byte) s6 none)),(7,(.dat (.int .i64) s7 none)),(8,(.dat (.int .i64) s8 none))]))=qjS (fun n3=>K (.exit 0) (frOf [(3,(.dat (.int .i64) n3 none))])) n:=by
  funext n3 s6 s7 s8
  exact IH n3 s6 s7 s8
 show _=qdU (fun n3=>K (.exit 0) (frOf [(3,(.dat (.int .i64) n3 none))])) (qjS (fun n3=>K (.exit 0) (frOf [(3,(.dat (.int .i64) n3 none))])) n) n n3 s6 s7 s8
 rw [← ih]
 kernel_rfl
theorem qml (n:Nat) (n3:Int):(qc 0 (E_z83.cutb 0) (kSeq (evCP E_z83 (evLP E_z83 n) (sub C_z83 [1,1,1])) (kFnP E_z83 R_z83))) (.exit 0) (frOf [(3,(.dat (.int .i64) n3 none))])=qfD n n3:=by
 kernel_rfl
theorem qCe (n:Nat) (s0:List UInt8) (o0:Lab):evFnP E_z83 n C_z83 R_z83 [.dat (.sl .byte) s0 o0]=qtL n s0:=by
 unfold qtL
 rw [show qjS (qfD n) n=(fun n3 s6 s7 s8=>evLP E_z83 n (sub C_z83 [1,1,0,1,0,0]) (qc 0 (E_z83.cutb 0) (kSeq (evCP E_z83 (evLP E_z83 n) (sub C_z83 [1,1,1])) (kFnP E_z83 R_z83))) (frOf [(3,(.dat (.int .i64) n3 none)),(6,(.dat (.sl .byte) s6 none)),(7,(.dat (.int .i64) s7 none)),(8,(.dat (.int .i64) s8 none))])) from by
  funext n3 s6 s7 s8
  refine Eq.trans ?_ (qsv (qc 0 (E_z83.cutb 0) (kSeq (evCP E_z83 (evLP E_z83 n) (sub C_z83 [1,1,1])) (kFnP E_z83 R_z83))) n n3 s6 s7 s8).symm
  rw [show (fun n3=>(qc 0 (E_z83.cutb 0) (kSeq (evCP E_z83 (evLP E_z83 n) (sub C_z83 [1,1,1])) (kFnP E_z83 R_z83))) (.exit 0) (frOf [(3,(.dat (.int .i64) n3 none))]))=(qfD n) from by
   funext n3
   exact qml n n3]
  all_goals kernel_rfl]
 kernel_rfl
theorem qsw:qg G Tryz.prog 83 s_z83:=by
 refine sQ (E:=E_z83) (c:=C_z83) rfl (fun w S hg=>(qb (qkV w S hg) qd)) Tryz.func83 ?_
 intro avs r h
 unfold s_z83 at h
 split at h
 ·obtain ⟨hp,rfl⟩:=Prod.mk.inj h
  obtain ⟨n,hn⟩:=qyc _ hp
  exact ⟨n,_,(qCe n _ _).trans hn,.inl rfl⟩
 ·cases h
end
end Go.Av
