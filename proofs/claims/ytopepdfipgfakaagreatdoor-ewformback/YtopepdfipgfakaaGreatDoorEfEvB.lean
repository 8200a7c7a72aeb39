import Derived.Test.YtopepdfipgfakaaGreatDoorEfEvA
import Derived.Test.YtopepdfipgfakaaGreatDoorEfLayX
import Derived.Test.YtopepdfipgfakaaGreatDoorProg
import Derived.KernelRfl
namespace Go.Av
set_option linter.unusedSimpArgs false
open Go.Proofs
set_option maxRecDepth 100000
set_option linter.unusedVariables false
noncomputable def qBr:EnvP:=eQ [(241,s_z241)] 8 (some [4]) nC nC nP
noncomputable def qBs:Code:=cO Tryz.f229
noncomputable def qEt:Array ResultVar:=Tryz.f229.results
theorem qBt (n:Nat) (s0:List UInt8) (o0:Lab) (c1:UInt8) (o1:Lab):evFnP qBr n qBs qEt [.dat .str s0 o0,.dat .byte c1 o1]=qxq n s0 c1:=by
 kernel_rfl
theorem qpR:qh G Tryz.prog 229 s_z229:=by
 refine sQ (E:=qBr) (c:=qBs) rfl (fun w S hg=>(qb (qpE w S hg) qd)) Tryz.func229 (by kernel_rfl) (by kernel_rfl) (by kernel_rfl) ?_
 intro avs r h
 unfold s_z229 at h
 split at h
 ·simp only [Prod.mk.injEq,true_and] at h
  subst h
  obtain ⟨n,hn⟩:=qws _ _
  exact ⟨n,_,(qBt n _ _ _ _).trans hn,.inl rfl⟩
 ·cases h
noncomputable def qBu:EnvP:=eQ [(229,s_z229)] 8 (some [4]) nC nC nP
noncomputable def qBv:Code:=cO Tryz.f192
noncomputable def qEu:Array ResultVar:=Tryz.f192.results
theorem qBw (n:Nat) (s0:List UInt8) (o0:Lab) (c1:UInt8) (o1:Lab):evFnP qBu n qBv qEu [.dat .str s0 o0,.dat .byte c1 o1]=qxr n s0 c1:=by
 kernel_rfl
theorem qiX:qh G Tryz.prog 192 s_z192:=by
 refine sQ (E:=qBu) (c:=qBv) rfl (fun w S hg=>(qb (qpR w S hg) qd)) Tryz.func192 (by kernel_rfl) (by kernel_rfl) (by kernel_rfl) ?_
 intro avs r h
 unfold s_z192 at h
 split at h
 ·simp only [Prod.mk.injEq,true_and] at h
  subst h
  obtain ⟨n,hn⟩:=qwt _ _
  exact ⟨n,_,(qBw n _ _ _ _).trans hn,.inl rfl⟩
 ·cases h
noncomputable def qBx:EnvP:=eQ [(192,s_z192)] 9 (some [4]) nC nC nP
noncomputable def qBy:Code:=cO Tryz.f215
noncomputable def qEv:Array ResultVar:=Tryz.f215.results
theorem qBz (n:Nat) (s0:List UInt8) (o0:Lab) (c1:UInt8) (o1:Lab):evFnP qBx n qBy qEv [.dat .str s0 o0,.dat .byte c1 o1]=qxs n s0 c1:=by
 kernel_rfl
theorem qpS:qh G Tryz.prog 215 s_z215:=by
 refine sQ (E:=qBx) (c:=qBy) rfl (fun w S hg=>(qb (qiX w S hg) qd)) Tryz.func215 (by kernel_rfl) (by kernel_rfl) (by kernel_rfl) ?_
 intro avs r h
 unfold s_z215 at h
 split at h
 ·simp only [Prod.mk.injEq,true_and] at h
  subst h
  obtain ⟨n,hn⟩:=qwu _ _
  exact ⟨n,_,(qBz n _ _ _ _).trans hn,.inl rfl⟩
 ·cases h
noncomputable def qBA:EnvP:=eQ [(214,s_z214),(215,s_z215)] 35 (some [2]) nC nC nP
noncomputable def qBB:Code:=cO Tryz.f180
noncomputable def qEw:Array ResultVar:=Tryz.f180.results
theorem qBC (n:Nat) (c0:UInt8) (o0:Lab):evFnP qBA n qBB qEw [.dat .byte c0 o0]=qsa n c0:=by
 kernel_rfl
theorem qpT:qh G Tryz.prog 180 s_z180:=by
 refine sQ (E:=qBA) (c:=qBB) rfl (fun w S hg=>(qb (qpQ w S hg) (qb (qpS w S hg) qd))) Tryz.func180 (by kernel_rfl) (by kernel_rfl) (by kernel_rfl) ?_
 intro avs r h
 unfold s_z180 at h
 split at h
 ·simp only [Prod.mk.injEq,true_and] at h
  subst h
  obtain ⟨n,hn⟩:=qwv _
  exact ⟨n,_,(qBC n _ _).trans hn,.inl rfl⟩
 ·cases h
noncomputable def qBD:EnvP:=eQ [(180,s_z180)] 10 (some [4]) nC nC nP
noncomputable def qBE:Code:=cO Tryz.f129
noncomputable def qEx:Array ResultVar:=Tryz.f129.results
theorem qBF (n:Nat) (c0:UInt8) (o0:Lab) (kinds1:Int) (o1:Lab):evFnP qBD n qBE qEx [.dat .byte c0 o0,.dat (.int .i64) kinds1 o1]=qxt n c0 kinds1:=by
 kernel_rfl
theorem qfT:qh G Tryz.prog 129 s_z129:=by
 refine sQ (E:=qBD) (c:=qBE) rfl (fun w S hg=>(qb (qpT w S hg) qd)) Tryz.func129 (by kernel_rfl) (by kernel_rfl) (by kernel_rfl) ?_
 intro avs r h
 unfold s_z129 at h
 split at h
 ·simp only [Prod.mk.injEq,true_and] at h
  subst h
  obtain ⟨n,hn⟩:=qww _ _
  exact ⟨n,_,(qBF n _ _ _ _).trans hn,.inl rfl⟩
 ·cases h
noncomputable def qaU:EnvP:=eQ [(129,s_z129)] 21 (some [4]) (fun x=>if x=3 then some [1,5,8,9,10] else none) (fun x=>if x=0 then some [5] else if x=1 then some [1,5,8,9,10] else none) nP
noncomputable def qhL:Code:=cO Tryz.f127
noncomputable def qpU:Array ResultVar:=Tryz.f127.results
theorem qpV (K:Ex→Fr→Option AV):∀ (n:Nat) (kinds1:Int) (n5:Int) (s8:List UInt8) (s9:Int) (s10:Int),evLP qaU n (sub qhL [1,1,0,1,0,0]) K (frOf [(1,(.dat (.int .i64) kinds1 none)),(5,(.dat (.int .i64) n5 none)),(8,(.dat (.sl .byte) s8 none)),(9,(.dat (.int .i64) s9 none)),(10,(.dat (.int .i64) s10 none))])=qdA (fun n5=>K (.exit 0) (frOf [(5,(.dat (.int .i64) n5 none))])) n kinds1 n5 s8 s9 s10:=by
 intro n
 induction n with
 | zero=>intros; rfl
 | succ n IH =>
 intro kinds1 n5 s8 s9 s10
 have ih:(fun kinds1 n5 s8 s9 s10=>evLP qaU n (sub qhL [1,1,0,1,0,0]) K (frOf [(1,(.dat (.int .i64) kinds1 none)),(5,(.dat (.int .i64) n5 none)),(8,(.dat (.sl .byte) s8 none)),(9,(.dat (.int .i64) s9 none)),(10,(.dat (.int .i64) s10 none))]))=qdA (fun n5=>K (.exit 0) (frOf [(5,(.dat (.int .i64) n5 none))])) n:=by
  funext kinds1 n5 s8 s9 s10
  exact IH kinds1 n5 s8 s9 s10
 show _=qcn (fun n5=>K (.exit 0) (frOf [(5,(.dat (.int .i64) n5 none))])) (qdA (fun n5=>K (.exit 0) (frOf [(5,(.dat (.int .i64) n5 none))])) n) n kinds1 n5 s8 s9 s10
 rw [← ih]
 kernel_rfl
theorem qkr (n:Nat) (n5:Int):(qc 0 (qaU.cutb 0) (kSeq (evCP qaU (evLP qaU n) (sub qhL [1,1,1])) (kFnP qaU qpU))) (.exit 0) (frOf [(5,(.dat (.int .i64) n5 none))])=qdB n n5:=by
 kernel_rfl
theorem qBG (n:Nat) (s0:List UInt8) (o0:Lab) (kinds1:Int) (o1:Lab):evFnP qaU n qhL qpU [.dat (.sl .byte) s0 o0,.dat (.int .i64) kinds1 o1]=qmy n s0 kinds1:=by
 unfold qmy
 rw [show qdA (qdB n) n=(fun kinds1 n5 s8 s9 s10=>evLP qaU n (sub qhL [1,1,0,1,0,0]) (qc 0 (qaU.cutb 0) (kSeq (evCP qaU (evLP qaU n) (sub qhL [1,1,1])) (kFnP qaU qpU))) (frOf [(1,(.dat (.int .i64) kinds1 none)),(5,(.dat (.int .i64) n5 none)),(8,(.dat (.sl .byte) s8 none)),(9,(.dat (.int .i64) s9 none)),(10,(.dat (.int .i64) s10 none))])) from by
  funext kinds1 n5 s8 s9 s10
  refine Eq.trans ?_ (qpV (qc 0 (qaU.cutb 0) (kSeq (evCP qaU (evLP qaU n) (sub qhL [1,1,1])) (kFnP qaU qpU))) n kinds1 n5 s8 s9 s10).symm
  rw [show (fun n5=>(qc 0 (qaU.cutb 0) (kSeq (evCP qaU (evLP qaU n) (sub qhL [1,1,1])) (kFnP qaU qpU))) (.exit 0) (frOf [(5,(.dat (.int .i64) n5 none))]))=(qdB n) from by
   funext n5
   exact qkr n n5]
  all_goals kernel_rfl]
 kernel_rfl
theorem qpW:qh G Tryz.prog 127 s_z127:=by
 refine sQ (E:=qaU) (c:=qhL) rfl (fun w S hg=>(qb (qfT w S hg) qd)) Tryz.func127 (by kernel_rfl) (by kernel_rfl) (by kernel_rfl) ?_
 intro avs r h
 unfold s_z127 at h
 split at h
 ·simp only [Prod.mk.injEq] at h
  obtain ⟨hp,rfl⟩:=h
  obtain ⟨n,hn⟩:=qwD _ _ hp
  exact ⟨n,_,(qBG n _ _ _ _).trans hn,.inl rfl⟩
 ·cases h
noncomputable def E_z80:EnvP:=eQ [(127,s_z127)] 11 (some [4]) nC nC nP
noncomputable def C_z80:Code:=cO Tryz.f80
noncomputable def R_z80:Array ResultVar:=Tryz.f80.results
theorem qEy (n:Nat) (s0:List UInt8) (o0:Lab) (kinds1:Int) (o1:Lab):evFnP E_z80 n C_z80 R_z80 [.dat (.sl .byte) s0 o0,.dat (.int .i64) kinds1 o1]=qzu n s0 kinds1:=by
 kernel_rfl
theorem qlR:qh G Tryz.prog 80 s_z80:=by
 refine sQ (E:=E_z80) (c:=C_z80) rfl (fun w S hg=>(qb (qpW w S hg) qd)) Tryz.func80 (by kernel_rfl) (by kernel_rfl) (by kernel_rfl) ?_
 intro avs r h
 unfold s_z80 at h
 split at h
 ·simp only [Prod.mk.injEq] at h
  obtain ⟨hp,rfl⟩:=h
  obtain ⟨n,hn⟩:=qzX _ _ hp
  exact ⟨n,_,(qEy n _ _ _ _).trans hn,.inl rfl⟩
 ·cases h
noncomputable def E_z40:EnvP:=eQ [(80,s_z80)] 13 (some [4]) nC nC nP
noncomputable def C_z40:Code:=cO Tryz.f40
noncomputable def R_z40:Array ResultVar:=Tryz.f40.results
theorem qEz (n:Nat) (s0:List UInt8) (o0:Lab) (kinds1:Int) (o1:Lab):evFnP E_z40 n C_z40 R_z40 [.dat (.sl .byte) s0 o0,.dat (.int .i64) kinds1 o1]=qzv n s0 kinds1:=by
 kernel_rfl
theorem quy:qh G Tryz.prog 40 s_z40:=by
 refine sQ (E:=E_z40) (c:=C_z40) rfl (fun w S hg=>(qb (qlR w S hg) qd)) Tryz.func40 (by kernel_rfl) (by kernel_rfl) (by kernel_rfl) ?_
 intro avs r h
 unfold s_z40 at h
 split at h
 ·simp only [Prod.mk.injEq] at h
  obtain ⟨hp,rfl⟩:=h
  obtain ⟨n,hn⟩:=qAb _ _ hp
  exact ⟨n,_,(qEz n _ _ _ _).trans hn,.inl rfl⟩
 ·cases h
noncomputable def E_z11:EnvP:=eQ [(37,s_z37),(38,s_z38),(39,s_z39),(40,s_z40)] 64 (some [2,3]) nC (fun x=>if x=0 then some [2,5] else none) nP
noncomputable def C_z11:Code:=cO Tryz.f11
noncomputable def R_z11:Array ResultVar:=Tryz.f11.results
theorem qEA (n:Nat) (s0:List UInt8) (o0:Lab):evFnP E_z11 n C_z11 R_z11 [.dat (.sl .byte) s0 o0]=qzw n s0:=by
 kernel_rfl
theorem qfc:qh G Tryz.prog 11 s_z11:=by
 refine sQ (E:=E_z11) (c:=C_z11) rfl (fun w S hg=>(qb (quv w S hg) (qb (qfb w S hg) (qb (qux w S hg) (qb (quy w S hg) qd))))) Tryz.func11 (by kernel_rfl) (by kernel_rfl) (by kernel_rfl) ?_
 intro avs r h
 unfold s_z11 at h
 split at h
 ·simp only [Prod.mk.injEq] at h
  obtain ⟨hp,rfl⟩:=h
  obtain ⟨n,hn⟩:=qAc _ hp
  exact ⟨n,_,(qEA n _ _).trans hn,.inl rfl⟩
 ·cases h
noncomputable def E_z14:EnvP:=eQ [(11,s_z11)] 12 (some [2]) nC nC nP
noncomputable def C_z14:Code:=cO Tryz.f14
noncomputable def R_z14:Array ResultVar:=Tryz.f14.results
theorem qEB (n:Nat) (s0:List UInt8) (o0:Lab):evFnP E_z14 n C_z14 R_z14 [.dat (.sl .byte) s0 o0]=qzx n s0:=by
 kernel_rfl
theorem qlS:qh G Tryz.prog 14 s_z14:=by
 refine sQ (E:=E_z14) (c:=C_z14) rfl (fun w S hg=>(qb (qfc w S hg) qd)) Tryz.func14 (by kernel_rfl) (by kernel_rfl) (by kernel_rfl) ?_
 intro avs r h
 unfold s_z14 at h
 split at h
 ·simp only [Prod.mk.injEq] at h
  obtain ⟨hp,rfl⟩:=h
  obtain ⟨n,hn⟩:=qAd _ hp
  exact ⟨n,_,(qEB n _ _).trans hn,.inl rfl⟩
 ·cases h
noncomputable def E_z44:EnvP:=eQ [] 9 (some [2]) nC nC nP
noncomputable def C_z44:Code:=cO Tryz.f44
noncomputable def R_z44:Array ResultVar:=Tryz.f44.results
theorem qEC (n:Nat) (n0:Int) (o0:Lab):evFnP E_z44 n C_z44 R_z44 [.dat (.int .i64) n0 o0]=qzy n n0:=by
 kernel_rfl
theorem qlT:qh G Tryz.prog 44 s_z44:=by
 refine sQ (E:=E_z44) (c:=C_z44) rfl (fun w S hg=>qd) Tryz.func44 (by kernel_rfl) (by kernel_rfl) (by kernel_rfl) ?_
 intro avs r h
 unfold s_z44 at h
 split at h
 ·simp only [Prod.mk.injEq,true_and] at h
  subst h
  obtain ⟨n,hn⟩:=qAm _
  exact ⟨n,_,(qEC n _ _).trans hn,.inl rfl⟩
 ·cases h
noncomputable def E_z45:EnvP:=eQ [] 8 (some [2]) nC (fun x=>if x=0 then some [] else none) nP
noncomputable def C_z45:Code:=cO Tryz.f45
noncomputable def R_z45:Array ResultVar:=Tryz.f45.results
theorem qED (n:Nat) (n0:Int) (o0:Lab):evFnP E_z45 n C_z45 R_z45 [.dat (.int .i64) n0 o0]=qzz n n0:=by
 kernel_rfl
theorem qlU:qh G Tryz.prog 45 s_z45:=by
 refine sQ (E:=E_z45) (c:=C_z45) rfl (fun w S hg=>qd) Tryz.func45 (by kernel_rfl) (by kernel_rfl) (by kernel_rfl) ?_
 intro avs r h
 unfold s_z45 at h
 split at h
 ·simp only [Prod.mk.injEq,true_and] at h
  subst h
  obtain ⟨n,hn⟩:=qAn _
  exact ⟨n,_,(qED n _ _).trans hn,.inl rfl⟩
 ·cases h
noncomputable def E_z84:EnvP:=eQ [(129,s_z129)] 9 (some [2]) nC nC nP
noncomputable def C_z84:Code:=cO Tryz.f84
noncomputable def R_z84:Array ResultVar:=Tryz.f84.results
theorem qEE (n:Nat) (c0:UInt8) (o0:Lab):evFnP E_z84 n C_z84 R_z84 [.dat .byte c0 o0]=qzA n c0:=by
 kernel_rfl
theorem qlV:qh G Tryz.prog 84 s_z84:=by
 refine sQ (E:=E_z84) (c:=C_z84) rfl (fun w S hg=>(qb (qfT w S hg) qd)) Tryz.func84 (by kernel_rfl) (by kernel_rfl) (by kernel_rfl) ?_
 intro avs r h
 unfold s_z84 at h
 split at h
 ·simp only [Prod.mk.injEq,true_and] at h
  subst h
  obtain ⟨n,hn⟩:=qAq _
  exact ⟨n,_,(qEE n _ _).trans hn,.inl rfl⟩
 ·cases h
noncomputable def E_z83:EnvP:=eQ [(84,s_z84)] 18 (some [2]) (fun x=>if x=3 then some [3,6,7,8] else none) (fun x=>if x=0 then some [3] else if x=1 then some [3,6,7,8] else none) nP
noncomputable def C_z83:Code:=cO Tryz.f83
noncomputable def R_z83:Array ResultVar:=Tryz.f83.results
theorem quz (K:Ex→Fr→Option AV):∀ (n:Nat) (n3:Int) (s6:List UInt8) (s7:Int) (s8:Int),evLP E_z83 n (sub C_z83 [1,1,0,1,0,0]) K (frOf [(3,(.dat (.int .i64) n3 none)),(6,(.dat (.sl .byte) s6 none)),(7,(.dat (.int .i64) s7 none)),(8,(.dat (.int .i64) s8 none))])=qkP (fun n3=>K (.exit 0) (frOf [(3,(.dat (.int .i64) n3 none))])) n n3 s6 s7 s8:=by
 intro n
 induction n with
 | zero=>intros; rfl
 | succ n IH =>
 intro n3 s6 s7 s8
 have ih:(fun n3 s6 s7 s8=>evLP E_z83 n (sub C_z83 [1,1,0,1,0,0]) K (frOf [(3,(.dat (.int .i64) n3 none)),(6,(.dat (.sl .byte) s6 none)),(7,(.dat (.int .i64) s7 none)),(8,(.dat (.int .i64) s8 none))]))=qkP (fun n3=>K (.exit 0) (frOf [(3,(.dat (.int .i64) n3 none))])) n:=by
  funext n3 s6 s7 s8
  exact IH n3 s6 s7 s8
 show _=qee (fun n3=>K (.exit 0) (frOf [(3,(.dat (.int .i64) n3 none))])) (qkP (fun n3=>K (.exit 0) (frOf [(3,(.dat (.int .i64) n3 none))])) n) n n3 s6 s7 s8
 rw [← ih]
 kernel_rfl
theorem qnD (n:Nat) (n3:Int):(qc 0 (E_z83.cutb 0) (kSeq (evCP E_z83 (evLP E_z83 n) (sub C_z83 [1,1,1])) (kFnP E_z83 R_z83))) (.exit 0) (frOf [(3,(.dat (.int .i64) n3 none))])=qgb n n3:=by
 kernel_rfl
theorem qEF (n:Nat) (s0:List UInt8) (o0:Lab):evFnP E_z83 n C_z83 R_z83 [.dat (.sl .byte) s0 o0]=qwf n s0:=by
 unfold qwf
 rw [show qkP (qgb n) n=(fun n3 s6 s7 s8=>evLP E_z83 n (sub C_z83 [1,1,0,1,0,0]) (qc 0 (E_z83.cutb 0) (kSeq (evCP E_z83 (evLP E_z83 n) (sub C_z83 [1,1,1])) (kFnP E_z83 R_z83))) (frOf [(3,(.dat (.int .i64) n3 none)),(6,(.dat (.sl .byte) s6 none)),(7,(.dat (.int .i64) s7 none)),(8,(.dat (.int .i64) s8 none))])) from by
  funext n3 s6 s7 s8
  refine Eq.trans ?_ (quz (qc 0 (E_z83.cutb 0) (kSeq (evCP E_z83 (evLP E_z83 n) (sub C_z83 [1,1,1])) (kFnP E_z83 R_z83))) n n3 s6 s7 s8).symm
  rw [show (fun n3=>(qc 0 (E_z83.cutb 0) (kSeq (evCP E_z83 (evLP E_z83 n) (sub C_z83 [1,1,1])) (kFnP E_z83 R_z83))) (.exit 0) (frOf [(3,(.dat (.int .i64) n3 none))]))=(qgb n) from by
   funext n3
   exact qnD n n3]
  all_goals kernel_rfl]
 kernel_rfl
theorem quA:qh G Tryz.prog 83 s_z83:=by
 refine sQ (E:=E_z83) (c:=C_z83) rfl (fun w S hg=>(qb (qlV w S hg) qd)) Tryz.func83 (by kernel_rfl) (by kernel_rfl) (by kernel_rfl) ?_
 intro avs r h
 unfold s_z83 at h
 split at h
 ·simp only [Prod.mk.injEq] at h
  obtain ⟨hp,rfl⟩:=h
  obtain ⟨n,hn⟩:=qAr _ hp
  exact ⟨n,_,(qEF n _ _).trans hn,.inl rfl⟩
 ·cases h
end Go.Av
