import Derived.Test.YtopepdfipgfakaaGreatDoorEfEvB
import Derived.Test.YtopepdfipgfakaaGreatDoorEfLayX
import Derived.Test.YtopepdfipgfakaaGreatDoorProg
import Derived.KernelRfl
namespace Go.Av
set_option linter.unusedSimpArgs false
open Go.Proofs
set_option maxRecDepth 100000
set_option linter.unusedVariables false
noncomputable def qBH:EnvP:=eQ [] 6 (some [2]) nC nC nP
noncomputable def qBI:Code:=cO Tryz.f181
noncomputable def qEG:Array ResultVar:=Tryz.f181.results
theorem qBJ (n:Nat) (n0:Int) (o0:Lab):evFnP qBH n qBI qEG [.dat (.int .i64) n0 o0]=qsh n n0:=by
 kernel_rfl
theorem qpX:qh G Tryz.prog 181 s_z181:=by
 refine sQ (E:=qBH) (c:=qBI) rfl (fun w S hg=>qd) Tryz.func181 (by kernel_rfl) (by kernel_rfl) (by kernel_rfl) ?_
 intro avs r h
 unfold s_z181 at h
 split at h
 ·simp only [Prod.mk.injEq] at h
  obtain ⟨hp,rfl⟩:=h
  obtain ⟨n,hn⟩:=qwI _ hp
  exact ⟨n,_,(qBJ n _ _).trans hn,.inl rfl⟩
 ·cases h
noncomputable def qBK:EnvP:=eQ [(181,s_z181)] 11 (some [2]) nC nC nP
noncomputable def qBL:Code:=cO Tryz.f130
noncomputable def qEH:Array ResultVar:=Tryz.f130.results
theorem qBM (n:Nat) (c0:UInt8) (o0:Lab):evFnP qBK n qBL qEH [.dat .byte c0 o0]=qsj n c0:=by
 kernel_rfl
theorem qpY:qh G Tryz.prog 130 s_z130:=by
 refine sQ (E:=qBK) (c:=qBL) rfl (fun w S hg=>(qb (qpX w S hg) qd)) Tryz.func130 (by kernel_rfl) (by kernel_rfl) (by kernel_rfl) ?_
 intro avs r h
 unfold s_z130 at h
 split at h
 ·simp only [Prod.mk.injEq,true_and] at h
  subst h
  obtain ⟨n,hn⟩:=qwM _
  exact ⟨n,_,(qBM n _ _).trans hn,.inl rfl⟩
 ·cases h
noncomputable def E_z85:EnvP:=eQ [(38,s_z38),(130,s_z130)] 15 (some [6]) nC nC nP
noncomputable def C_z85:Code:=cO Tryz.f85
noncomputable def R_z85:Array ResultVar:=Tryz.f85.results
theorem qEI (n:Nat) (b0:List UInt8) (o0:Lab) (sign1:UInt8) (o1:Lab) (c2:UInt8) (o2:Lab):evFnP E_z85 n C_z85 R_z85 [.dat (.sl .byte) b0 o0,.dat .byte sign1 o1,.dat .byte c2 o2]=qzB n b0 sign1 c2:=by
 kernel_rfl
theorem quB:qh G Tryz.prog 85 s_z85:=by
 refine sQ (E:=E_z85) (c:=C_z85) rfl (fun w S hg=>(qb (qfb w S hg) (qb (qpY w S hg) qd))) Tryz.func85 (by kernel_rfl) (by kernel_rfl) (by kernel_rfl) ?_
 intro avs r h
 unfold s_z85 at h
 split at h
 ·simp only [Prod.mk.injEq] at h
  obtain ⟨hp,rfl⟩:=h
  obtain ⟨n,hn⟩:=qAh _ _ _ hp
  exact ⟨n,_,(qEI n _ _ _ _ _ _).trans hn,.inl rfl⟩
 ·cases h
noncomputable def E_z46:EnvP:=eQ [(83,s_z83),(84,s_z84),(85,s_z85)] 34 (some [2]) (fun x=>if x=3 then some [3,9,10,11] else none) (fun x=>if x=0 then some [3] else if x=1 then some [3,9,10,11] else if x=2 then some [3,9,10,11] else none) nP
noncomputable def C_z46:Code:=cO Tryz.f46
noncomputable def R_z46:Array ResultVar:=Tryz.f46.results
theorem quC (K:Ex→Fr→Option AV):∀ (n:Nat) (out3:List UInt8) (s9:List UInt8) (s10:Int) (s11:Int),evLP E_z46 n (sub C_z46 [1,1,0,1,0,0]) K (frOf [(3,(.dat (.sl .byte) out3 (some (3,5)))),(9,(.dat (.sl .byte) s9 none)),(10,(.dat (.int .i64) s10 none)),(11,(.dat (.int .i64) s11 none))])=qkQ (fun out3=>K (.exit 0) (frOf [(3,(.dat (.sl .byte) out3 (some (3,5))))])) n out3 s9 s10 s11:=by
 intro n
 induction n with
 | zero=>intros; rfl
 | succ n IH =>
 intro out3 s9 s10 s11
 have ih:(fun out3 s9 s10 s11=>evLP E_z46 n (sub C_z46 [1,1,0,1,0,0]) K (frOf [(3,(.dat (.sl .byte) out3 (some (3,5)))),(9,(.dat (.sl .byte) s9 none)),(10,(.dat (.int .i64) s10 none)),(11,(.dat (.int .i64) s11 none))]))=qkQ (fun out3=>K (.exit 0) (frOf [(3,(.dat (.sl .byte) out3 (some (3,5))))])) n:=by
  funext out3 s9 s10 s11
  exact IH out3 s9 s10 s11
 show _=qef (fun out3=>K (.exit 0) (frOf [(3,(.dat (.sl .byte) out3 (some (3,5))))])) (qkQ (fun out3=>K (.exit 0) (frOf [(3,(.dat (.sl .byte) out3 (some (3,5))))])) n) n out3 s9 s10 s11
 rw [← ih]
 kernel_rfl
theorem qnE (n:Nat) (out3:List UInt8):(qc 0 (E_z46.cutb 0) (kSeq (evCP E_z46 (evLP E_z46 n) (sub C_z46 [1,1,1])) (kFnP E_z46 R_z46))) (.exit 0) (frOf [(3,(.dat (.sl .byte) out3 (some (3,5))))])=qgc n out3:=by
 kernel_rfl
theorem qEJ (n:Nat) (s0:List UInt8) (o0:Lab):evFnP E_z46 n C_z46 R_z46 [.dat (.sl .byte) s0 o0]=qwg n s0:=by
 unfold qwg
 rw [show qkQ (qgc n) n=(fun out3 s9 s10 s11=>evLP E_z46 n (sub C_z46 [1,1,0,1,0,0]) (qc 0 (E_z46.cutb 0) (kSeq (evCP E_z46 (evLP E_z46 n) (sub C_z46 [1,1,1])) (kFnP E_z46 R_z46))) (frOf [(3,(.dat (.sl .byte) out3 (some (3,5)))),(9,(.dat (.sl .byte) s9 none)),(10,(.dat (.int .i64) s10 none)),(11,(.dat (.int .i64) s11 none))])) from by
  funext out3 s9 s10 s11
  refine Eq.trans ?_ (quC (qc 0 (E_z46.cutb 0) (kSeq (evCP E_z46 (evLP E_z46 n) (sub C_z46 [1,1,1])) (kFnP E_z46 R_z46))) n out3 s9 s10 s11).symm
  rw [show (fun out3=>(qc 0 (E_z46.cutb 0) (kSeq (evCP E_z46 (evLP E_z46 n) (sub C_z46 [1,1,1])) (kFnP E_z46 R_z46))) (.exit 0) (frOf [(3,(.dat (.sl .byte) out3 (some (3,5))))]))=(qgc n) from by
   funext out3
   exact qnE n out3]
  all_goals kernel_rfl]
 kernel_rfl
theorem quD:qh G Tryz.prog 46 s_z46:=by
 refine sQ (E:=E_z46) (c:=C_z46) rfl (fun w S hg=>(qb (quA w S hg) (qb (qlV w S hg) (qb (quB w S hg) qd)))) Tryz.func46 (by kernel_rfl) (by kernel_rfl) (by kernel_rfl) ?_
 intro avs r h
 unfold s_z46 at h
 split at h
 ·simp only [Prod.mk.injEq] at h
  obtain ⟨hp,rfl⟩:=h
  obtain ⟨n,hn⟩:=qzk _ hp
  exact ⟨n,_,(qEJ n _ _).trans hn,.inl rfl⟩
 ·cases h
noncomputable def qBN:EnvP:=eQ [] 6 (some [2]) nC nC nP
noncomputable def qBO:Code:=cO Tryz.f132
noncomputable def qEK:Array ResultVar:=Tryz.f132.results
theorem qBP (n:Nat) (n0:Int) (o0:Lab):evFnP qBN n qBO qEK [.dat (.int .i64) n0 o0]=qsl n n0:=by
 kernel_rfl
theorem qpZ:qh G Tryz.prog 132 s_z132:=by
 refine sQ (E:=qBN) (c:=qBO) rfl (fun w S hg=>qd) Tryz.func132 (by kernel_rfl) (by kernel_rfl) (by kernel_rfl) ?_
 intro avs r h
 unfold s_z132 at h
 split at h
 ·simp only [Prod.mk.injEq,true_and] at h
  subst h
  obtain ⟨n,hn⟩:=qvw _
  exact ⟨n,_,(qBP n _ _).trans hn,.inl rfl⟩
 ·cases h
noncomputable def E_z88:EnvP:=eQ [(132,s_z132)] 49 (some [2]) (fun x=>if x=4 then some [3,4,5,8,9,10] else if x=8 then some [3,4,5,8,9,10] else none) (fun x=>if x=0 then some [3,4,5] else if x=1 then some [3,4,5,8,9,10] else if x=2 then some [3,4,5,8,9,10] else if x=3 then some [3,4,5,8,9,10] else none) nP
noncomputable def C_z88:Code:=cO Tryz.f88
noncomputable def R_z88:Array ResultVar:=Tryz.f88.results
theorem quE (K:Ex→Fr→Option AV):∀ (n:Nat) (out3:List UInt8) (held4:Int) (many5:Int) (s8:List UInt8) (s9:Int) (s10:Int),evLP E_z88 n (sub C_z88 [1,1,1,0,1,0,0,1,1,0,0,1,1,1,0,0,0]) K (frOf [(3,(.dat (.sl .byte) out3 (some (3,5)))),(4,(.dat (.int .i64) held4 none)),(5,(.dat (.int .i64) many5 none)),(8,(.dat (.sl .byte) s8 none)),(9,(.dat (.int .i64) s9 none)),(10,(.dat (.int .i64) s10 none))])=qeg (fun out3 held4 many5 s8 s9 s10=>K (.exit 2) (frOf [(3,(.dat (.sl .byte) out3 (some (3,5)))),(4,(.dat (.int .i64) held4 none)),(5,(.dat (.int .i64) many5 none)),(8,(.dat (.sl .byte) s8 none)),(9,(.dat (.int .i64) s9 none)),(10,(.dat (.int .i64) s10 none))])) n out3 held4 many5 s8 s9 s10:=by
 intro n
 induction n with
 | zero=>intros; rfl
 | succ n IH =>
 intro out3 held4 many5 s8 s9 s10
 have ih:(fun out3 held4 many5 s8 s9 s10=>evLP E_z88 n (sub C_z88 [1,1,1,0,1,0,0,1,1,0,0,1,1,1,0,0,0]) K (frOf [(3,(.dat (.sl .byte) out3 (some (3,5)))),(4,(.dat (.int .i64) held4 none)),(5,(.dat (.int .i64) many5 none)),(8,(.dat (.sl .byte) s8 none)),(9,(.dat (.int .i64) s9 none)),(10,(.dat (.int .i64) s10 none))]))=qeg (fun out3 held4 many5 s8 s9 s10=>K (.exit 2) (frOf [(3,(.dat (.sl .byte) out3 (some (3,5)))),(4,(.dat (.int .i64) held4 none)),(5,(.dat (.int .i64) many5 none)),(8,(.dat (.sl .byte) s8 none)),(9,(.dat (.int .i64) s9 none)),(10,(.dat (.int .i64) s10 none))])) n:=by
  funext out3 held4 many5 s8 s9 s10
  exact IH out3 held4 many5 s8 s9 s10
 show _=qsm (fun out3 held4 many5 s8 s9 s10=>K (.exit 2) (frOf [(3,(.dat (.sl .byte) out3 (some (3,5)))),(4,(.dat (.int .i64) held4 none)),(5,(.dat (.int .i64) many5 none)),(8,(.dat (.sl .byte) s8 none)),(9,(.dat (.int .i64) s9 none)),(10,(.dat (.int .i64) s10 none))])) (qeg (fun out3 held4 many5 s8 s9 s10=>K (.exit 2) (frOf [(3,(.dat (.sl .byte) out3 (some (3,5)))),(4,(.dat (.int .i64) held4 none)),(5,(.dat (.int .i64) many5 none)),(8,(.dat (.sl .byte) s8 none)),(9,(.dat (.int .i64) s9 none)),(10,(.dat (.int .i64) s10 none))])) n) n out3 held4 many5 s8 s9 s10
 rw [← ih]
 kernel_rfl
theorem qnF (K:Ex→Fr→Option AV) (n:Nat) (out3:List UInt8) (held4:Int) (many5:Int) (s8:List UInt8) (s9:Int) (s10:Int):(qc 2 (E_z88.cutb 2) (kSeq (evCP E_z88 (evLP E_z88 n) (sub C_z88 [1,1,1,0,1,0,0,1,1,0,0,1,1,1,1])) (qc 1 (E_z88.cutb 1) (kSeq (evCP E_z88 (evLP E_z88 n) (sub C_z88 [1,1,1,0,1,0,0,1,1,1])) (kSeq (fun K fr=>evLP E_z88 n (sub C_z88 [1,1,1,0,1,0,0]) K (cutFP (E_z88.cuts 4) fr)) K))))) (.exit 2) (frOf [(3,(.dat (.sl .byte) out3 (some (3,5)))),(4,(.dat (.int .i64) held4 none)),(5,(.dat (.int .i64) many5 none)),(8,(.dat (.sl .byte) s8 none)),(9,(.dat (.int .i64) s9 none)),(10,(.dat (.int .i64) s10 none))])=qbZ (fun out3 held4 many5=>K (.exit 0) (frOf [(3,(.dat (.sl .byte) out3 (some (3,5)))),(4,(.dat (.int .i64) held4 none)),(5,(.dat (.int .i64) many5 none))])) (fun out3 held4 many5 s8 s9 s10=>evLP E_z88 n (sub C_z88 [1,1,1,0,1,0,0]) K (frOf [(3,(.dat (.sl .byte) out3 (some (3,5)))),(4,(.dat (.int .i64) held4 none)),(5,(.dat (.int .i64) many5 none)),(8,(.dat (.sl .byte) s8 none)),(9,(.dat (.int .i64) s9 none)),(10,(.dat (.int .i64) s10 none))])) n out3 held4 many5 s8 s9 s10:=by
 kernel_rfl
theorem quF (K:Ex→Fr→Option AV):∀ (n:Nat) (out3:List UInt8) (held4:Int) (many5:Int) (s8:List UInt8) (s9:Int) (s10:Int),evLP E_z88 n (sub C_z88 [1,1,1,0,1,0,0]) K (frOf [(3,(.dat (.sl .byte) out3 (some (3,5)))),(4,(.dat (.int .i64) held4 none)),(5,(.dat (.int .i64) many5 none)),(8,(.dat (.sl .byte) s8 none)),(9,(.dat (.int .i64) s9 none)),(10,(.dat (.int .i64) s10 none))])=qkR (fun out3 held4 many5=>K (.exit 0) (frOf [(3,(.dat (.sl .byte) out3 (some (3,5)))),(4,(.dat (.int .i64) held4 none)),(5,(.dat (.int .i64) many5 none))])) n out3 held4 many5 s8 s9 s10:=by
 intro n
 induction n with
 | zero=>intros; rfl
 | succ n IH =>
 intro out3 held4 many5 s8 s9 s10
 have ih:(fun out3 held4 many5 s8 s9 s10=>evLP E_z88 n (sub C_z88 [1,1,1,0,1,0,0]) K (frOf [(3,(.dat (.sl .byte) out3 (some (3,5)))),(4,(.dat (.int .i64) held4 none)),(5,(.dat (.int .i64) many5 none)),(8,(.dat (.sl .byte) s8 none)),(9,(.dat (.int .i64) s9 none)),(10,(.dat (.int .i64) s10 none))]))=qkR (fun out3 held4 many5=>K (.exit 0) (frOf [(3,(.dat (.sl .byte) out3 (some (3,5)))),(4,(.dat (.int .i64) held4 none)),(5,(.dat (.int .i64) many5 none))])) n:=by
  funext out3 held4 many5 s8 s9 s10
  exact IH out3 held4 many5 s8 s9 s10
 show _=qcS (fun out3 held4 many5=>K (.exit 0) (frOf [(3,(.dat (.sl .byte) out3 (some (3,5)))),(4,(.dat (.int .i64) held4 none)),(5,(.dat (.int .i64) many5 none))])) (qkR (fun out3 held4 many5=>K (.exit 0) (frOf [(3,(.dat (.sl .byte) out3 (some (3,5)))),(4,(.dat (.int .i64) held4 none)),(5,(.dat (.int .i64) many5 none))])) n) n out3 held4 many5 s8 s9 s10
 rw [← ih]
 unfold qcS
 rw [show qeg (qbZ (fun out3 held4 many5=>K (.exit 0) (frOf [(3,(.dat (.sl .byte) out3 (some (3,5)))),(4,(.dat (.int .i64) held4 none)),(5,(.dat (.int .i64) many5 none))])) (fun out3 held4 many5 s8 s9 s10=>evLP E_z88 n (sub C_z88 [1,1,1,0,1,0,0]) K (frOf [(3,(.dat (.sl .byte) out3 (some (3,5)))),(4,(.dat (.int .i64) held4 none)),(5,(.dat (.int .i64) many5 none)),(8,(.dat (.sl .byte) s8 none)),(9,(.dat (.int .i64) s9 none)),(10,(.dat (.int .i64) s10 none))])) n) n=(fun out3 held4 many5 s8 s9 s10=>evLP E_z88 n (sub C_z88 [1,1,1,0,1,0,0,1,1,0,0,1,1,1,0,0,0]) (qc 2 (E_z88.cutb 2) (kSeq (evCP E_z88 (evLP E_z88 n) (sub C_z88 [1,1,1,0,1,0,0,1,1,0,0,1,1,1,1])) (qc 1 (E_z88.cutb 1) (kSeq (evCP E_z88 (evLP E_z88 n) (sub C_z88 [1,1,1,0,1,0,0,1,1,1])) (kSeq (fun K fr=>evLP E_z88 n (sub C_z88 [1,1,1,0,1,0,0]) K (cutFP (E_z88.cuts 4) fr)) K))))) (frOf [(3,(.dat (.sl .byte) out3 (some (3,5)))),(4,(.dat (.int .i64) held4 none)),(5,(.dat (.int .i64) many5 none)),(8,(.dat (.sl .byte) s8 none)),(9,(.dat (.int .i64) s9 none)),(10,(.dat (.int .i64) s10 none))])) from by
  funext out3 held4 many5 s8 s9 s10
  refine Eq.trans ?_ (quE (qc 2 (E_z88.cutb 2) (kSeq (evCP E_z88 (evLP E_z88 n) (sub C_z88 [1,1,1,0,1,0,0,1,1,0,0,1,1,1,1])) (qc 1 (E_z88.cutb 1) (kSeq (evCP E_z88 (evLP E_z88 n) (sub C_z88 [1,1,1,0,1,0,0,1,1,1])) (kSeq (fun K fr=>evLP E_z88 n (sub C_z88 [1,1,1,0,1,0,0]) K (cutFP (E_z88.cuts 4) fr)) K))))) n out3 held4 many5 s8 s9 s10).symm
  rw [show (fun out3 held4 many5 s8 s9 s10=>(qc 2 (E_z88.cutb 2) (kSeq (evCP E_z88 (evLP E_z88 n) (sub C_z88 [1,1,1,0,1,0,0,1,1,0,0,1,1,1,1])) (qc 1 (E_z88.cutb 1) (kSeq (evCP E_z88 (evLP E_z88 n) (sub C_z88 [1,1,1,0,1,0,0,1,1,1])) (kSeq (fun K fr=>evLP E_z88 n (sub C_z88 [1,1,1,0,1,0,0]) K (cutFP (E_z88.cuts 4) fr)) K))))) (.exit 2) (frOf [(3,(.dat (.sl .byte) out3 (some (3,5)))),(4,(.dat (.int .i64) held4 none)),(5,(.dat (.int .i64) many5 none)),(8,(.dat (.sl .byte) s8 none)),(9,(.dat (.int .i64) s9 none)),(10,(.dat (.int .i64) s10 none))]))=(qbZ (fun out3 held4 many5=>K (.exit 0) (frOf [(3,(.dat (.sl .byte) out3 (some (3,5)))),(4,(.dat (.int .i64) held4 none)),(5,(.dat (.int .i64) many5 none))])) (fun out3 held4 many5 s8 s9 s10=>evLP E_z88 n (sub C_z88 [1,1,1,0,1,0,0]) K (frOf [(3,(.dat (.sl .byte) out3 (some (3,5)))),(4,(.dat (.int .i64) held4 none)),(5,(.dat (.int .i64) many5 none)),(8,(.dat (.sl .byte) s8 none)),(9,(.dat (.int .i64) s9 none)),(10,(.dat (.int .i64) s10 none))])) n) from by
   funext out3 held4 many5 s8 s9 s10
   exact qnF K n out3 held4 many5 s8 s9 s10]
  all_goals kernel_rfl]
 kernel_rfl
theorem qnG (n:Nat) (out3:List UInt8) (held4:Int) (many5:Int):(qc 0 (E_z88.cutb 0) (kSeq (evCP E_z88 (evLP E_z88 n) (sub C_z88 [1,1,1,1])) (kFnP E_z88 R_z88))) (.exit 0) (frOf [(3,(.dat (.sl .byte) out3 (some (3,5)))),(4,(.dat (.int .i64) held4 none)),(5,(.dat (.int .i64) many5 none))])=qcT n out3 held4 many5:=by
 kernel_rfl
theorem qEL (n:Nat) (s0:List UInt8) (o0:Lab):evFnP E_z88 n C_z88 R_z88 [.dat (.sl .byte) s0 o0]=qwh n s0:=by
 unfold qwh
 rw [show qkR (qcT n) n=(fun out3 held4 many5 s8 s9 s10=>evLP E_z88 n (sub C_z88 [1,1,1,0,1,0,0]) (qc 0 (E_z88.cutb 0) (kSeq (evCP E_z88 (evLP E_z88 n) (sub C_z88 [1,1,1,1])) (kFnP E_z88 R_z88))) (frOf [(3,(.dat (.sl .byte) out3 (some (3,5)))),(4,(.dat (.int .i64) held4 none)),(5,(.dat (.int .i64) many5 none)),(8,(.dat (.sl .byte) s8 none)),(9,(.dat (.int .i64) s9 none)),(10,(.dat (.int .i64) s10 none))])) from by
  funext out3 held4 many5 s8 s9 s10
  refine Eq.trans ?_ (quF (qc 0 (E_z88.cutb 0) (kSeq (evCP E_z88 (evLP E_z88 n) (sub C_z88 [1,1,1,1])) (kFnP E_z88 R_z88))) n out3 held4 many5 s8 s9 s10).symm
  rw [show (fun out3 held4 many5=>(qc 0 (E_z88.cutb 0) (kSeq (evCP E_z88 (evLP E_z88 n) (sub C_z88 [1,1,1,1])) (kFnP E_z88 R_z88))) (.exit 0) (frOf [(3,(.dat (.sl .byte) out3 (some (3,5)))),(4,(.dat (.int .i64) held4 none)),(5,(.dat (.int .i64) many5 none))]))=(qcT n) from by
   funext out3 held4 many5
   exact qnG n out3 held4 many5]
  all_goals kernel_rfl]
 kernel_rfl
theorem quG:qh G Tryz.prog 88 s_z88:=by
 refine sQ (E:=E_z88) (c:=C_z88) rfl (fun w S hg=>(qb (qpZ w S hg) qd)) Tryz.func88 (by kernel_rfl) (by kernel_rfl) (by kernel_rfl) ?_
 intro avs r h
 unfold s_z88 at h
 split at h
 ·simp only [Prod.mk.injEq] at h
  obtain ⟨hp,rfl⟩:=h
  obtain ⟨n,hn⟩:=qza _ hp
  exact ⟨n,_,(qEL n _ _).trans hn,.inl rfl⟩
 ·cases h
theorem quH:qh G Tryz.prog 47 s_z47:=fun w S hg vals avs r h hS ha=>by
 unfold s_z47 at h
 split at h
 ·rename_i s o
  simp only [Prod.mk.injEq] at h
  obtain ⟨hp,rfl⟩:=h
  obtain ⟨u,rfl,h1⟩:=args1 ha
  obtain ⟨A,cap,rfl,hcap,hA,hcA⟩:=qec h1
  have hent:(callFunc 47 #[.slice A (List.length s) cap]).run Tryz.prog w=.ok (.enter 47 #[.slice A (List.length s) cap]) w:=enters_of (c:=Tryz.f47.body.getD .skip) Tryz.func47 (by kernel_rfl) (by kernel_rfl) _ _
  refine .inl ⟨hent,(Go.Proofs.lay_walk (S:=S) (qm hp) ?_).mono ?_⟩
  ·intro w' hb
   have hk:Keeps w S w' S:=fun b o hs=>⟨hs,qi (hb.block b (hS b o hs)) o⟩
   have hS':∀ b o,S b o→b < w'.heap.size:=fun b o hs=>Nat.lt_of_lt_of_le (hS b o hs) hb.size
   rcases quG w' S (G_stays w S w' S hk hg) [.slice A (List.length s) cap] [.dat (.sl .byte) s none] _ (show s_z88 _=(true,_) from Prod.ext hp rfl) hS' (qcc ((h1.keeps hk).relab none) (qip _ _)) with ⟨_,h2⟩ | ⟨v,w2,h2,_⟩
   ·refine h2.mono fun e w2 ⟨v,he,S2,g2,hr⟩=>?_
    obtain ⟨A',cap',rfl,_,hA',hc'⟩:=qec hr.rd
    refine ⟨A',cap',he,g2.below,hA',fun ad ha' i x hx=>?_⟩
    have hi:=(List.getElem?_eq_some_iff.1 hx).1
    have hx':(z88 s)[i]?=some x:=hx
    have:=hc' ad ha' i hi
    rw [List.getD_eq_getElem?_getD,List.getElem?_map,hx'] at this
    exact this
   ·exfalso
    have:(callFunc 88 #[.slice A (List.length s) cap]).run Tryz.prog w'=.ok (.enter 88 #[.slice A (List.length s) cap]) w':=enters_of (c:=Tryz.f88.body.getD .skip) Tryz.func88 (by kernel_rfl) (by kernel_rfl) _ _
    rw [this] at h2
    cases h2
  ·rintro e w' ⟨v,rfl,hf,hb⟩
   exact ⟨v,rfl,Go.Proofs.res_fresh hS hb hf⟩
 ·cases h
noncomputable def qBQ:EnvP:=eQ [] 19 (some [2]) nC (fun x=>if x=0 then some [] else none) nP
noncomputable def qBR:Code:=cO Tryz.f133
noncomputable def qEM:Array ResultVar:=Tryz.f133.results
theorem qBS (n:Nat) (charset0:Int) (o0:Lab):evFnP qBQ n qBR qEM [.dat (.int .i64) charset0 o0]=qsn n charset0:=by
 kernel_rfl
theorem qiY:qh G Tryz.prog 133 s_z133:=by
 refine sQ (E:=qBQ) (c:=qBR) rfl (fun w S hg=>qd) Tryz.func133 (by kernel_rfl) (by kernel_rfl) (by kernel_rfl) ?_
 intro avs r h
 unfold s_z133 at h
 split at h
 ·simp only [Prod.mk.injEq,true_and] at h
  subst h
  obtain ⟨n,hn⟩:=qwR _
  exact ⟨n,_,(qBS n _ _).trans hn,.inl rfl⟩
 ·cases h
noncomputable def E_z89:EnvP:=eQ [(133,s_z133)] 12 (some [2]) nC nC nP
noncomputable def C_z89:Code:=cO Tryz.f89
noncomputable def R_z89:Array ResultVar:=Tryz.f89.results
theorem qEN (n:Nat) (charset0:Int) (o0:Lab):evFnP E_z89 n C_z89 R_z89 [.dat (.int .i64) charset0 o0]=qzC n charset0:=by
 kernel_rfl
theorem quI:qh G Tryz.prog 89 s_z89:=by
 refine sQ (E:=E_z89) (c:=C_z89) rfl (fun w S hg=>(qb (qiY w S hg) qd)) Tryz.func89 (by kernel_rfl) (by kernel_rfl) (by kernel_rfl) ?_
 intro avs r h
 unfold s_z89 at h
 split at h
 ·simp only [Prod.mk.injEq,true_and] at h
  subst h
  obtain ⟨n,hn⟩:=qAl _
  exact ⟨n,_,(qEN n _ _).trans hn,.inl rfl⟩
 ·cases h
noncomputable def E_z48:EnvP:=eQ [(45,s_z45),(89,s_z89)] 13 (some [4]) nC nC nP
noncomputable def C_z48:Code:=cO Tryz.f48
noncomputable def R_z48:Array ResultVar:=Tryz.f48.results
theorem qEO (n:Nat) (charset0:Int) (o0:Lab) (code1:Int) (o1:Lab):evFnP E_z48 n C_z48 R_z48 [.dat (.int .i64) charset0 o0,.dat (.int .i64) code1 o1]=qzD n charset0 code1:=by
 kernel_rfl
theorem qlW:qh G Tryz.prog 48 s_z48:=by
 refine sQ (E:=E_z48) (c:=C_z48) rfl (fun w S hg=>(qb (qlU w S hg) (qb (quI w S hg) qd))) Tryz.func48 (by kernel_rfl) (by kernel_rfl) (by kernel_rfl) ?_
 intro avs r h
 unfold s_z48 at h
 split at h
 ·simp only [Prod.mk.injEq,true_and] at h
  subst h
  obtain ⟨n,hn⟩:=qAo _ _
  exact ⟨n,_,(qEO n _ _ _ _).trans hn,.inl rfl⟩
 ·cases h
noncomputable def E_z15:EnvP:=eQ [(44,s_z44),(45,s_z45),(46,s_z46),(47,s_z47),(48,s_z48)] 41 (some [1000006,7]) nC (fun x=>if x=0 then some [0,1,2] else none) (fun x=>if x=32 then some (.osl 5 .byte) else if x=34 then some (.osl 5 .byte) else if x=36 then some (.osl 5 .byte) else none)
noncomputable def C_z15:Code:=cO Tryz.f15
noncomputable def R_z15:Array ResultVar:=Tryz.f15.results
theorem qEP (n:Nat) (charset0:Int) (o0:Lab) (code1:Int) (o1:Lab) (s2:List UInt8) (o2:Lab):evFnP E_z15 n C_z15 R_z15 [.dat (.int .i64) charset0 o0,.dat (.int .i64) code1 o1,.dat (.sl .byte) s2 o2]=qzE n charset0 code1 s2:=by
 kernel_rfl
theorem qlX:qh G Tryz.prog 15 s_z15:=by
 refine sQ (E:=E_z15) (c:=C_z15) rfl (fun w S hg=>(qb (qlT w S hg) (qb (qlU w S hg) (qb (quD w S hg) (qb (quH w S hg) (qb (qlW w S hg) qd)))))) Tryz.func15 (by kernel_rfl) (by kernel_rfl) (by kernel_rfl) ?_
 intro avs r h
 unfold s_z15 at h
 split at h
 ·simp only [Prod.mk.injEq] at h
  obtain ⟨hp,rfl⟩:=h
  obtain ⟨n,hn⟩:=qyW _ _ _ hp
  exact ⟨n,_,(qEP n _ _ _ _ _ _).trans hn,.inl rfl⟩
 ·cases h
end Go.Av
