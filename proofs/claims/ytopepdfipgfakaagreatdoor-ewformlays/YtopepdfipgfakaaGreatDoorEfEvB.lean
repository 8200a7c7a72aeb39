import Derived.Test.YtopepdfipgfakaaGreatDoorEfEvA
import Derived.Test.YtopepdfipgfakaaGreatDoorEfLayX
import Derived.Test.YtopepdfipgfakaaGreatDoorProg
import Derived.KernelRfl
namespace Go.Av
set_option linter.unusedSimpArgs false
open Go.Proofs
set_option maxRecDepth 100000
set_option linter.unusedVariables false
noncomputable def qAJ:EnvP:=eQ [(192,s_z192)] 9 (some [4]) nC nC nP
noncomputable def qAK:Code:=cO Tryz.f215
noncomputable def qDI:Array ResultVar:=Tryz.f215.results
theorem qAL (n:Nat) (s0:List UInt8) (o0:Lab) (c1:UInt8) (o1:Lab):evFnP qAJ n qAK qDI [.dat .str s0 o0,.dat .byte c1 o1]=qwt n s0 c1:=by
 kernel_rfl
theorem qpk:qg G Tryz.prog 215 s_z215:=by
 refine sQ (E:=qAJ) (c:=qAK) rfl (fun w S hg=>(qb (qiI w S hg) qd)) Tryz.func215 (by kernel_rfl) (by kernel_rfl) (by kernel_rfl) ?_
 intro avs r h
 unfold s_z215 at h
 split at h
 ·simp only [Prod.mk.injEq,true_and] at h
  subst h
  obtain ⟨n,hn⟩:=qvs _ _
  exact ⟨n,_,(qAL n _ _ _ _).trans hn,.inl rfl⟩
 ·cases h
noncomputable def qAM:EnvP:=eQ [(214,s_z214),(215,s_z215)] 35 (some [2]) nC nC nP
noncomputable def qAN:Code:=cO Tryz.f180
noncomputable def qDJ:Array ResultVar:=Tryz.f180.results
theorem qAO (n:Nat) (c0:UInt8) (o0:Lab):evFnP qAM n qAN qDJ [.dat .byte c0 o0]=qrg n c0:=by
 kernel_rfl
theorem qpl:qg G Tryz.prog 180 s_z180:=by
 refine sQ (E:=qAM) (c:=qAN) rfl (fun w S hg=>(qb (qpi w S hg) (qb (qpk w S hg) qd))) Tryz.func180 (by kernel_rfl) (by kernel_rfl) (by kernel_rfl) ?_
 intro avs r h
 unfold s_z180 at h
 split at h
 ·simp only [Prod.mk.injEq,true_and] at h
  subst h
  obtain ⟨n,hn⟩:=qvt _
  exact ⟨n,_,(qAO n _ _).trans hn,.inl rfl⟩
 ·cases h
noncomputable def qAP:EnvP:=eQ [(180,s_z180)] 10 (some [4]) nC nC nP
noncomputable def qAQ:Code:=cO Tryz.f129
noncomputable def qDK:Array ResultVar:=Tryz.f129.results
theorem qAR (n:Nat) (c0:UInt8) (o0:Lab) (kinds1:Int) (o1:Lab):evFnP qAP n qAQ qDK [.dat .byte c0 o0,.dat (.int .i64) kinds1 o1]=qwu n c0 kinds1:=by
 kernel_rfl
theorem qfO:qg G Tryz.prog 129 s_z129:=by
 refine sQ (E:=qAP) (c:=qAQ) rfl (fun w S hg=>(qb (qpl w S hg) qd)) Tryz.func129 (by kernel_rfl) (by kernel_rfl) (by kernel_rfl) ?_
 intro avs r h
 unfold s_z129 at h
 split at h
 ·simp only [Prod.mk.injEq,true_and] at h
  subst h
  obtain ⟨n,hn⟩:=qvu _ _
  exact ⟨n,_,(qAR n _ _ _ _).trans hn,.inl rfl⟩
 ·cases h
noncomputable def qaU:EnvP:=eQ [(129,s_z129)] 21 (some [4]) (fun x=>if x=3 then some [1,5,8,9,10] else none) (fun x=>if x=0 then some [5] else if x=1 then some [1,5,8,9,10] else none) nP
noncomputable def qhA:Code:=cO Tryz.f127
noncomputable def qpm:Array ResultVar:=Tryz.f127.results
theorem qpn (K:Ex→Fr→Option AV):∀ (n:Nat) (kinds1:Int) (n5:Int) (s8:List UInt8) (s9:Int) (s10:Int),evLP qaU n (sub qhA [1,1,0,1,0,0]) K (frOf [(1,(.dat (.int .i64) kinds1 none)),(5,(.dat (.int .i64) n5 none)),(8,(.dat (.sl .byte) s8 none)),(9,(.dat (.int .i64) s9 none)),(10,(.dat (.int .i64) s10 none))])=qdw (fun n5=>K (.exit 0) (frOf [(5,(.dat (.int .i64) n5 none))])) n kinds1 n5 s8 s9 s10:=by
 intro n
 induction n with
 | zero=>intros; rfl
 | succ n IH =>
 intro kinds1 n5 s8 s9 s10
 have ih:(fun kinds1 n5 s8 s9 s10=>evLP qaU n (sub qhA [1,1,0,1,0,0]) K (frOf [(1,(.dat (.int .i64) kinds1 none)),(5,(.dat (.int .i64) n5 none)),(8,(.dat (.sl .byte) s8 none)),(9,(.dat (.int .i64) s9 none)),(10,(.dat (.int .i64) s10 none))]))=qdw (fun n5=>K (.exit 0) (frOf [(5,(.dat (.int .i64) n5 none))])) n:=by
  funext kinds1 n5 s8 s9 s10
  exact IH kinds1 n5 s8 s9 s10
 show _=qcm (fun n5=>K (.exit 0) (frOf [(5,(.dat (.int .i64) n5 none))])) (qdw (fun n5=>K (.exit 0) (frOf [(5,(.dat (.int .i64) n5 none))])) n) n kinds1 n5 s8 s9 s10
 rw [← ih]
 kernel_rfl
theorem qjR (n:Nat) (n5:Int):(qc 0 (qaU.cutb 0) (kSeq (evCP qaU (evLP qaU n) (sub qhA [1,1,1])) (kFnP qaU qpm))) (.exit 0) (frOf [(5,(.dat (.int .i64) n5 none))])=qdx n n5:=by
 kernel_rfl
theorem qAS (n:Nat) (s0:List UInt8) (o0:Lab) (kinds1:Int) (o1:Lab):evFnP qaU n qhA qpm [.dat (.sl .byte) s0 o0,.dat (.int .i64) kinds1 o1]=qlS n s0 kinds1:=by
 unfold qlS
 rw [show qdw (qdx n) n=(fun kinds1 n5 s8 s9 s10=>evLP qaU n (sub qhA [1,1,0,1,0,0]) (qc 0 (qaU.cutb 0) (kSeq (evCP qaU (evLP qaU n) (sub qhA [1,1,1])) (kFnP qaU qpm))) (frOf [(1,(.dat (.int .i64) kinds1 none)),(5,(.dat (.int .i64) n5 none)),(8,(.dat (.sl .byte) s8 none)),(9,(.dat (.int .i64) s9 none)),(10,(.dat (.int .i64) s10 none))])) from by
  funext kinds1 n5 s8 s9 s10
  refine Eq.trans ?_ (qpn (qc 0 (qaU.cutb 0) (kSeq (evCP qaU (evLP qaU n) (sub qhA [1,1,1])) (kFnP qaU qpm))) n kinds1 n5 s8 s9 s10).symm
  rw [show (fun n5=>(qc 0 (qaU.cutb 0) (kSeq (evCP qaU (evLP qaU n) (sub qhA [1,1,1])) (kFnP qaU qpm))) (.exit 0) (frOf [(5,(.dat (.int .i64) n5 none))]))=(qdx n) from by
   funext n5
   exact qjR n n5]
  all_goals kernel_rfl]
 kernel_rfl
theorem qpo:qg G Tryz.prog 127 s_z127:=by
 refine sQ (E:=qaU) (c:=qhA) rfl (fun w S hg=>(qb (qfO w S hg) qd)) Tryz.func127 (by kernel_rfl) (by kernel_rfl) (by kernel_rfl) ?_
 intro avs r h
 unfold s_z127 at h
 split at h
 ·simp only [Prod.mk.injEq] at h
  obtain ⟨hp,rfl⟩:=h
  obtain ⟨n,hn⟩:=qvB _ _ hp
  exact ⟨n,_,(qAS n _ _ _ _).trans hn,.inl rfl⟩
 ·cases h
noncomputable def E_z80:EnvP:=eQ [(127,s_z127)] 11 (some [4]) nC nC nP
noncomputable def C_z80:Code:=cO Tryz.f80
noncomputable def R_z80:Array ResultVar:=Tryz.f80.results
theorem qDL (n:Nat) (s0:List UInt8) (o0:Lab) (kinds1:Int) (o1:Lab):evFnP E_z80 n C_z80 R_z80 [.dat (.sl .byte) s0 o0,.dat (.int .i64) kinds1 o1]=qyw n s0 kinds1:=by
 kernel_rfl
theorem qtD:qg G Tryz.prog 80 s_z80:=by
 refine sQ (E:=E_z80) (c:=C_z80) rfl (fun w S hg=>(qb (qpo w S hg) qd)) Tryz.func80 (by kernel_rfl) (by kernel_rfl) (by kernel_rfl) ?_
 intro avs r h
 unfold s_z80 at h
 split at h
 ·simp only [Prod.mk.injEq] at h
  obtain ⟨hp,rfl⟩:=h
  obtain ⟨n,hn⟩:=qyY _ _ hp
  exact ⟨n,_,(qDL n _ _ _ _).trans hn,.inl rfl⟩
 ·cases h
noncomputable def E_z40:EnvP:=eQ [(80,s_z80)] 13 (some [4]) nC nC nP
noncomputable def C_z40:Code:=cO Tryz.f40
noncomputable def R_z40:Array ResultVar:=Tryz.f40.results
theorem qDM (n:Nat) (s0:List UInt8) (o0:Lab) (kinds1:Int) (o1:Lab):evFnP E_z40 n C_z40 R_z40 [.dat (.sl .byte) s0 o0,.dat (.int .i64) kinds1 o1]=qyx n s0 kinds1:=by
 kernel_rfl
theorem qtE:qg G Tryz.prog 40 s_z40:=by
 refine sQ (E:=E_z40) (c:=C_z40) rfl (fun w S hg=>(qb (qtD w S hg) qd)) Tryz.func40 (by kernel_rfl) (by kernel_rfl) (by kernel_rfl) ?_
 intro avs r h
 unfold s_z40 at h
 split at h
 ·simp only [Prod.mk.injEq] at h
  obtain ⟨hp,rfl⟩:=h
  obtain ⟨n,hn⟩:=qzd _ _ hp
  exact ⟨n,_,(qDM n _ _ _ _).trans hn,.inl rfl⟩
 ·cases h
noncomputable def E_z11:EnvP:=eQ [(37,s_z37),(38,s_z38),(39,s_z39),(40,s_z40)] 64 (some [2,3]) nC (fun x=>if x=0 then some [2,5] else none) nP
noncomputable def C_z11:Code:=cO Tryz.f11
noncomputable def R_z11:Array ResultVar:=Tryz.f11.results
theorem qDN (n:Nat) (s0:List UInt8) (o0:Lab):evFnP E_z11 n C_z11 R_z11 [.dat (.sl .byte) s0 o0]=qyy n s0:=by
 kernel_rfl
theorem qlx:qg G Tryz.prog 11 s_z11:=by
 refine sQ (E:=E_z11) (c:=C_z11) rfl (fun w S hg=>(qb (qtA w S hg) (qb (qeY w S hg) (qb (qtC w S hg) (qb (qtE w S hg) qd))))) Tryz.func11 (by kernel_rfl) (by kernel_rfl) (by kernel_rfl) ?_
 intro avs r h
 unfold s_z11 at h
 split at h
 ·simp only [Prod.mk.injEq] at h
  obtain ⟨hp,rfl⟩:=h
  obtain ⟨n,hn⟩:=qze _ hp
  exact ⟨n,_,(qDN n _ _).trans hn,.inl rfl⟩
 ·cases h
noncomputable def E_z14:EnvP:=eQ [(11,s_z11)] 12 (some [2]) nC nC nP
noncomputable def C_z14:Code:=cO Tryz.f14
noncomputable def R_z14:Array ResultVar:=Tryz.f14.results
theorem qDO (n:Nat) (s0:List UInt8) (o0:Lab):evFnP E_z14 n C_z14 R_z14 [.dat (.sl .byte) s0 o0]=qyz n s0:=by
 kernel_rfl
theorem qtF:qg G Tryz.prog 14 s_z14:=by
 refine sQ (E:=E_z14) (c:=C_z14) rfl (fun w S hg=>(qb (qlx w S hg) qd)) Tryz.func14 (by kernel_rfl) (by kernel_rfl) (by kernel_rfl) ?_
 intro avs r h
 unfold s_z14 at h
 split at h
 ·simp only [Prod.mk.injEq] at h
  obtain ⟨hp,rfl⟩:=h
  obtain ⟨n,hn⟩:=qzf _ hp
  exact ⟨n,_,(qDO n _ _).trans hn,.inl rfl⟩
 ·cases h
noncomputable def E_z44:EnvP:=eQ [] 9 (some [2]) nC nC nP
noncomputable def C_z44:Code:=cO Tryz.f44
noncomputable def R_z44:Array ResultVar:=Tryz.f44.results
theorem qDP (n:Nat) (n0:Int) (o0:Lab):evFnP E_z44 n C_z44 R_z44 [.dat (.int .i64) n0 o0]=qyA n n0:=by
 kernel_rfl
theorem qly:qg G Tryz.prog 44 s_z44:=by
 refine sQ (E:=E_z44) (c:=C_z44) rfl (fun w S hg=>qd) Tryz.func44 (by kernel_rfl) (by kernel_rfl) (by kernel_rfl) ?_
 intro avs r h
 unfold s_z44 at h
 split at h
 ·simp only [Prod.mk.injEq,true_and] at h
  subst h
  obtain ⟨n,hn⟩:=qzo _
  exact ⟨n,_,(qDP n _ _).trans hn,.inl rfl⟩
 ·cases h
noncomputable def E_z45:EnvP:=eQ [] 8 (some [2]) nC (fun x=>if x=0 then some [] else none) nP
noncomputable def C_z45:Code:=cO Tryz.f45
noncomputable def R_z45:Array ResultVar:=Tryz.f45.results
theorem qDQ (n:Nat) (n0:Int) (o0:Lab):evFnP E_z45 n C_z45 R_z45 [.dat (.int .i64) n0 o0]=qyB n n0:=by
 kernel_rfl
theorem qlz:qg G Tryz.prog 45 s_z45:=by
 refine sQ (E:=E_z45) (c:=C_z45) rfl (fun w S hg=>qd) Tryz.func45 (by kernel_rfl) (by kernel_rfl) (by kernel_rfl) ?_
 intro avs r h
 unfold s_z45 at h
 split at h
 ·simp only [Prod.mk.injEq,true_and] at h
  subst h
  obtain ⟨n,hn⟩:=qzp _
  exact ⟨n,_,(qDQ n _ _).trans hn,.inl rfl⟩
 ·cases h
noncomputable def E_z84:EnvP:=eQ [(129,s_z129)] 9 (some [2]) nC nC nP
noncomputable def C_z84:Code:=cO Tryz.f84
noncomputable def R_z84:Array ResultVar:=Tryz.f84.results
theorem qDR (n:Nat) (c0:UInt8) (o0:Lab):evFnP E_z84 n C_z84 R_z84 [.dat .byte c0 o0]=qyC n c0:=by
 kernel_rfl
theorem qlA:qg G Tryz.prog 84 s_z84:=by
 refine sQ (E:=E_z84) (c:=C_z84) rfl (fun w S hg=>(qb (qfO w S hg) qd)) Tryz.func84 (by kernel_rfl) (by kernel_rfl) (by kernel_rfl) ?_
 intro avs r h
 unfold s_z84 at h
 split at h
 ·simp only [Prod.mk.injEq,true_and] at h
  subst h
  obtain ⟨n,hn⟩:=qzt _
  exact ⟨n,_,(qDR n _ _).trans hn,.inl rfl⟩
 ·cases h
noncomputable def E_z83:EnvP:=eQ [(84,s_z84)] 18 (some [2]) (fun x=>if x=3 then some [3,6,7,8] else none) (fun x=>if x=0 then some [3] else if x=1 then some [3,6,7,8] else none) nP
noncomputable def C_z83:Code:=cO Tryz.f83
noncomputable def R_z83:Array ResultVar:=Tryz.f83.results
theorem qtG (K:Ex→Fr→Option AV):∀ (n:Nat) (n3:Int) (s6:List UInt8) (s7:Int) (s8:Int),evLP E_z83 n (sub C_z83 [1,1,0,1,0,0]) K (frOf [(3,(.dat (.int .i64) n3 none)),(6,(.dat (.sl .byte) s6 none)),(7,(.dat (.int .i64) s7 none)),(8,(.dat (.int .i64) s8 none))])=qkn (fun n3=>K (.exit 0) (frOf [(3,(.dat (.int .i64) n3 none))])) n n3 s6 s7 s8:=by
 intro n
 induction n with
 | zero=>intros; rfl
 | succ n IH =>
 intro n3 s6 s7 s8
 have ih:(fun n3 s6 s7 s8=>evLP E_z83 n (sub C_z83 [1,1,0,1,0,0]) K (frOf [(3,(.dat (.int .i64) n3 none)),(6,(.dat (.sl .byte) s6 none)),(7,(.dat (.int .i64) s7 none)),(8,(.dat (.int .i64) s8 none))]))=qkn (fun n3=>K (.exit 0) (frOf [(3,(.dat (.int .i64) n3 none))])) n:=by
  funext n3 s6 s7 s8
  exact IH n3 s6 s7 s8
 show _=qef (fun n3=>K (.exit 0) (frOf [(3,(.dat (.int .i64) n3 none))])) (qkn (fun n3=>K (.exit 0) (frOf [(3,(.dat (.int .i64) n3 none))])) n) n n3 s6 s7 s8
 rw [← ih]
 kernel_rfl
theorem qmV (n:Nat) (n3:Int):(qc 0 (E_z83.cutb 0) (kSeq (evCP E_z83 (evLP E_z83 n) (sub C_z83 [1,1,1])) (kFnP E_z83 R_z83))) (.exit 0) (frOf [(3,(.dat (.int .i64) n3 none))])=qfT n n3:=by
 kernel_rfl
theorem qDS (n:Nat) (s0:List UInt8) (o0:Lab):evFnP E_z83 n C_z83 R_z83 [.dat (.sl .byte) s0 o0]=qvb n s0:=by
 unfold qvb
 rw [show qkn (qfT n) n=(fun n3 s6 s7 s8=>evLP E_z83 n (sub C_z83 [1,1,0,1,0,0]) (qc 0 (E_z83.cutb 0) (kSeq (evCP E_z83 (evLP E_z83 n) (sub C_z83 [1,1,1])) (kFnP E_z83 R_z83))) (frOf [(3,(.dat (.int .i64) n3 none)),(6,(.dat (.sl .byte) s6 none)),(7,(.dat (.int .i64) s7 none)),(8,(.dat (.int .i64) s8 none))])) from by
  funext n3 s6 s7 s8
  refine Eq.trans ?_ (qtG (qc 0 (E_z83.cutb 0) (kSeq (evCP E_z83 (evLP E_z83 n) (sub C_z83 [1,1,1])) (kFnP E_z83 R_z83))) n n3 s6 s7 s8).symm
  rw [show (fun n3=>(qc 0 (E_z83.cutb 0) (kSeq (evCP E_z83 (evLP E_z83 n) (sub C_z83 [1,1,1])) (kFnP E_z83 R_z83))) (.exit 0) (frOf [(3,(.dat (.int .i64) n3 none))]))=(qfT n) from by
   funext n3
   exact qmV n n3]
  all_goals kernel_rfl]
 kernel_rfl
theorem qtH:qg G Tryz.prog 83 s_z83:=by
 refine sQ (E:=E_z83) (c:=C_z83) rfl (fun w S hg=>(qb (qlA w S hg) qd)) Tryz.func83 (by kernel_rfl) (by kernel_rfl) (by kernel_rfl) ?_
 intro avs r h
 unfold s_z83 at h
 split at h
 ·simp only [Prod.mk.injEq] at h
  obtain ⟨hp,rfl⟩:=h
  obtain ⟨n,hn⟩:=qzu _ hp
  exact ⟨n,_,(qDS n _ _).trans hn,.inl rfl⟩
 ·cases h
noncomputable def qAT:EnvP:=eQ [] 6 (some [2]) nC nC nP
noncomputable def qAU:Code:=cO Tryz.f181
noncomputable def qDT:Array ResultVar:=Tryz.f181.results
theorem qAV (n:Nat) (n0:Int) (o0:Lab):evFnP qAT n qAU qDT [.dat (.int .i64) n0 o0]=qrn n n0:=by
 kernel_rfl
theorem qpp:qg G Tryz.prog 181 s_z181:=by
 refine sQ (E:=qAT) (c:=qAU) rfl (fun w S hg=>qd) Tryz.func181 (by kernel_rfl) (by kernel_rfl) (by kernel_rfl) ?_
 intro avs r h
 unfold s_z181 at h
 split at h
 ·simp only [Prod.mk.injEq] at h
  obtain ⟨hp,rfl⟩:=h
  obtain ⟨n,hn⟩:=qvH _ hp
  exact ⟨n,_,(qAV n _ _).trans hn,.inl rfl⟩
 ·cases h
noncomputable def qAW:EnvP:=eQ [(181,s_z181)] 11 (some [2]) nC nC nP
noncomputable def qAX:Code:=cO Tryz.f130
noncomputable def qDU:Array ResultVar:=Tryz.f130.results
theorem qAY (n:Nat) (c0:UInt8) (o0:Lab):evFnP qAW n qAX qDU [.dat .byte c0 o0]=qrp n c0:=by
 kernel_rfl
theorem qpq:qg G Tryz.prog 130 s_z130:=by
 refine sQ (E:=qAW) (c:=qAX) rfl (fun w S hg=>(qb (qpp w S hg) qd)) Tryz.func130 (by kernel_rfl) (by kernel_rfl) (by kernel_rfl) ?_
 intro avs r h
 unfold s_z130 at h
 split at h
 ·simp only [Prod.mk.injEq,true_and] at h
  subst h
  obtain ⟨n,hn⟩:=qvN _
  exact ⟨n,_,(qAY n _ _).trans hn,.inl rfl⟩
 ·cases h
noncomputable def E_z85:EnvP:=eQ [(38,s_z38),(130,s_z130)] 15 (some [6]) nC nC nP
noncomputable def C_z85:Code:=cO Tryz.f85
noncomputable def R_z85:Array ResultVar:=Tryz.f85.results
theorem qDV (n:Nat) (b0:List UInt8) (o0:Lab) (sign1:UInt8) (o1:Lab) (c2:UInt8) (o2:Lab):evFnP E_z85 n C_z85 R_z85 [.dat (.sl .byte) b0 o0,.dat .byte sign1 o1,.dat .byte c2 o2]=qyD n b0 sign1 c2:=by
 kernel_rfl
theorem qtI:qg G Tryz.prog 85 s_z85:=by
 refine sQ (E:=E_z85) (c:=C_z85) rfl (fun w S hg=>(qb (qeY w S hg) (qb (qpq w S hg) qd))) Tryz.func85 (by kernel_rfl) (by kernel_rfl) (by kernel_rfl) ?_
 intro avs r h
 unfold s_z85 at h
 split at h
 ·simp only [Prod.mk.injEq] at h
  obtain ⟨hp,rfl⟩:=h
  obtain ⟨n,hn⟩:=qzj _ _ _ hp
  exact ⟨n,_,(qDV n _ _ _ _ _ _).trans hn,.inl rfl⟩
 ·cases h
end Go.Av
