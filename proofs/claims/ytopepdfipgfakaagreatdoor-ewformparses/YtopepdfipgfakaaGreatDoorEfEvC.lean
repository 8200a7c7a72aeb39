import Derived.Test.YtopepdfipgfakaaGreatDoorEfEvB
import Derived.Test.YtopepdfipgfakaaGreatDoorEfLayX
import Derived.Test.YtopepdfipgfakaaGreatDoorProg
import Derived.KernelRfl
namespace Go.Av
set_option linter.unusedSimpArgs false
noncomputable section
open Go.Proofs
set_option maxRecDepth 100000
set_option linter.unusedVariables false
def qzp:EnvP:=eQ [] 6 (some [2]) nC nC nP
def qzq:Code:=cO Tryz.f181
def qCf:Array ResultVar:=Tryz.f181.results
theorem qzr (n:Nat) (n0:Int) (o0:Lab):evFnP qzp n qzq qCf [.dat (.int .i64) n0 o0]=qqn n n0:=by
 kernel_rfl
theorem qoz:qg G Tryz.prog 181 s_z181:=by
 refine sQ (E:=qzp) (c:=qzq) rfl (fun w S hg=>qd) Tryz.func181 ?_
 intro avs r h
 unfold s_z181 at h
 split at h
 ·obtain ⟨hp,rfl⟩:=Prod.mk.inj h
  obtain ⟨n,hn⟩:=qus _ hp
  exact ⟨n,_,(qzr n _ _).trans hn,.inl rfl⟩
 ·cases h
def qzs:EnvP:=eQ [(181,s_z181)] 11 (some [2]) nC nC nP
def qzt:Code:=cO Tryz.f130
def qCg:Array ResultVar:=Tryz.f130.results
theorem qzu (n:Nat) (c0:UInt8) (o0:Lab):evFnP qzs n qzt qCg [.dat .byte c0 o0]=qqp n c0:=by
 kernel_rfl
theorem qoA:qg G Tryz.prog 130 s_z130:=by
 refine sQ (E:=qzs) (c:=qzt) rfl (fun w S hg=>(qb (qoz w S hg) qd)) Tryz.func130 ?_
 intro avs r h
 unfold s_z130 at h
 split at h <;> cases h
 obtain ⟨n,hn⟩:=quw _
 exact ⟨n,_,(qzu n _ _).trans hn,.inl rfl⟩
def E_z85:EnvP:=eQ [(38,s_z38),(130,s_z130)] 15 (some [6]) nC nC nP
def C_z85:Code:=cO Tryz.f85
def R_z85:Array ResultVar:=Tryz.f85.results
theorem qCh (n:Nat) (b0:List UInt8) (o0:Lab) (sign1:UInt8) (o1:Lab) (c2:UInt8) (o2:Lab):evFnP E_z85 n C_z85 R_z85 [.dat (.sl .byte) b0 o0,.dat .byte sign1 o1,.dat .byte c2 o2]=qxk n b0 sign1 c2:=by
 kernel_rfl
theorem qsx:qg G Tryz.prog 85 s_z85:=by
 refine sQ (E:=E_z85) (c:=C_z85) rfl (fun w S hg=>(qb (qeK w S hg) (qb (qoA w S hg) qd))) Tryz.func85 ?_
 intro avs r h
 unfold s_z85 at h
 split at h
 ·obtain ⟨hp,rfl⟩:=Prod.mk.inj h
  obtain ⟨n,hn⟩:=qxU _ _ _ hp
  exact ⟨n,_,(qCh n _ _ _ _ _ _).trans hn,.inl rfl⟩
 ·cases h
def E_z46:EnvP:=eQ [(83,s_z83),(84,s_z84),(85,s_z85)] 34 (some [2]) (fun x=>if x=3 then some [3,9,10,11] else none) (fun x=>if x=0 then some [3] else if x=1 then some [3,9,10,11] else if x=2 then some [3,9,10,11] else none) nP
def C_z46:Code:=cO Tryz.f46
def R_z46:Array ResultVar:=Tryz.f46.results
theorem qsy (K:Ex→Fr→Option AV):∀ (n:Nat) (out3:List UInt8) (s9:List UInt8) (s10:Int) (s11:Int),evLP E_z46 n (sub C_z46 [1,1,0,1,0,0]) K (frOf [(3,(.dat (.sl .byte) out3 (some (3,5)))),(9,(.dat (.sl .byte) s9 none)),(10,(.dat (.int .i64) s10 none)),(11,(.dat (.int .i64) s11 none))])=qjT (fun out3=>K (.exit 0) (frOf [(3,(.dat (.sl .byte) out3 (some (3,5))))])) n out3 s9 s10 s11:=by
 intro n
 induction n with
 | zero=>intros; rfl
 | succ n IH =>
 intro out3 s9 s10 s11
 have ih:(fun out3 s9 s10 s11=>evLP E_z46 n (sub C_z46 [1,1,0,1,0,0]) K (frOf [(3,(.dat (.sl .byte) out3 (some (3,5)))),(9,(.dat (.sl .byte) s9 none)),(10,(.dat (.int .i64) s10 none)),(11,(.dat (.int .i64) s11 none))]))=qjT (fun out3=>K (.exit 0) (frOf [(3,(.dat (.sl .byte) out3 (some (3,5))))])) n:=by
  funext out3 s9 s10 s11
  exact IH out3 s9 s10 s11
 show _=qdV (fun out3=>K (.exit 0) (frOf [(3,(.dat (.sl .byte) out3 (some (3,5))))])) (qjT (fun out3=>K (.exit 0) (frOf [(3,(.dat (.sl .byte) out3 (some (3,5))))])) n) n out3 s9 s10 s11
 rw [← ih]
 kernel_rfl
theorem qmm (n:Nat) (out3:List UInt8):(qc 0 (E_z46.cutb 0) (kSeq (evCP E_z46 (evLP E_z46 n) (sub C_z46 [1,1,1])) (kFnP E_z46 R_z46))) (.exit 0) (frOf [(3,(.dat (.sl .byte) out3 (some (3,5))))])=qfE n out3:=by
 kernel_rfl
theorem qCi (n:Nat) (s0:List UInt8) (o0:Lab):evFnP E_z46 n C_z46 R_z46 [.dat (.sl .byte) s0 o0]=qtM n s0:=by
 unfold qtM
 rw [show qjT (qfE n) n=(fun out3 s9 s10 s11=>evLP E_z46 n (sub C_z46 [1,1,0,1,0,0]) (qc 0 (E_z46.cutb 0) (kSeq (evCP E_z46 (evLP E_z46 n) (sub C_z46 [1,1,1])) (kFnP E_z46 R_z46))) (frOf [(3,(.dat (.sl .byte) out3 (some (3,5)))),(9,(.dat (.sl .byte) s9 none)),(10,(.dat (.int .i64) s10 none)),(11,(.dat (.int .i64) s11 none))])) from by
  funext out3 s9 s10 s11
  refine Eq.trans ?_ (qsy (qc 0 (E_z46.cutb 0) (kSeq (evCP E_z46 (evLP E_z46 n) (sub C_z46 [1,1,1])) (kFnP E_z46 R_z46))) n out3 s9 s10 s11).symm
  rw [show (fun out3=>(qc 0 (E_z46.cutb 0) (kSeq (evCP E_z46 (evLP E_z46 n) (sub C_z46 [1,1,1])) (kFnP E_z46 R_z46))) (.exit 0) (frOf [(3,(.dat (.sl .byte) out3 (some (3,5))))]))=(qfE n) from by
   funext out3
   exact qmm n out3]
  all_goals kernel_rfl]
 kernel_rfl
theorem qsz:qg G Tryz.prog 46 s_z46:=by
 refine sQ (E:=E_z46) (c:=C_z46) rfl (fun w S hg=>(qb (qsw w S hg) (qb (qkV w S hg) (qb (qsx w S hg) qd)))) Tryz.func46 ?_
 intro avs r h
 unfold s_z46 at h
 split at h
 ·obtain ⟨hp,rfl⟩:=Prod.mk.inj h
  obtain ⟨n,hn⟩:=qwW _ hp
  exact ⟨n,_,(qCi n _ _).trans hn,.inl rfl⟩
 ·cases h
def qzv:EnvP:=eQ [] 6 (some [2]) nC nC nP
def qzw:Code:=cO Tryz.f132
def qCj:Array ResultVar:=Tryz.f132.results
theorem qzx (n:Nat) (n0:Int) (o0:Lab):evFnP qzv n qzw qCj [.dat (.int .i64) n0 o0]=qqr n n0:=by
 kernel_rfl
theorem qoB:qg G Tryz.prog 132 s_z132:=by
 refine sQ (E:=qzv) (c:=qzw) rfl (fun w S hg=>qd) Tryz.func132 ?_
 intro avs r h
 unfold s_z132 at h
 split at h <;> cases h
 obtain ⟨n,hn⟩:=qto _
 exact ⟨n,_,(qzx n _ _).trans hn,.inl rfl⟩
def E_z88:EnvP:=eQ [(132,s_z132)] 49 (some [2]) (fun x=>if x=4 then some [3,4,5,8,9,10] else if x=8 then some [3,4,5,8,9,10] else none) (fun x=>if x=0 then some [3,4,5] else if x=1 then some [3,4,5,8,9,10] else if x=2 then some [3,4,5,8,9,10] else if x=3 then some [3,4,5,8,9,10] else none) nP
def C_z88:Code:=cO Tryz.f88
def R_z88:Array ResultVar:=Tryz.f88.results
theorem qsA (K:Ex→Fr→Option AV):∀ (n:Nat) (out3:List UInt8) (held4:Int) (many5:Int) (s8:List UInt8) (s9:Int) (s10:Int),evLP E_z88 n (sub C_z88 [1,1,1,0,1,0,0,1,1,0,0,1,1,1,0,0,0]) K (frOf [(3,(.dat (.sl .byte) out3 (some (3,5)))),(4,(.dat (.int .i64) held4 none)),(5,(.dat (.int .i64) many5 none)),(8,(.dat (.sl .byte) s8 none)),(9,(.dat (.int .i64) s9 none)),(10,(.dat (.int .i64) s10 none))])=qdW (fun out3 held4 many5 s8 s9 s10=>K (.exit 2) (frOf [(3,(.dat (.sl .byte) out3 (some (3,5)))),(4,(.dat (.int .i64) held4 none)),(5,(.dat (.int .i64) many5 none)),(8,(.dat (.sl .byte) s8 none)),(9,(.dat (.int .i64) s9 none)),(10,(.dat (.int .i64) s10 none))])) n out3 held4 many5 s8 s9 s10:=by
 intro n
 induction n with
 | zero=>intros; rfl
 | succ n IH =>
 intro out3 held4 many5 s8 s9 s10
 have ih:(fun out3 held4 many5 s8 s9 s10=>evLP E_z88 n (sub C_z88 [1,1,1,0,1,0,0,1,1,0,0,1,1,1,0,0,0]) K (frOf [(3,(.dat (.sl .byte) out3 (some (3,5)))),(4,(.dat (.int .i64) held4 none)),(5,(.dat (.int .i64) many5 none)),(8,(.dat (.sl .byte) s8 none)),(9,(.dat (.int .i64) s9 none)),(10,(.dat (.int .i64) s10 none))]))=qdW (fun out3 held4 many5 s8 s9 s10=>K (.exit 2) (frOf [(3,(.dat (.sl .byte) out3 (some (3,5)))),(4,(.dat (.int .i64) held4 none)),(5,(.dat (.int .i64) many5 none)),(8,(.dat (.sl .byte) s8 none)),(9,(.dat (.int .i64) s9 none)),(10,(.dat (.int .i64) s10 none))])) n:=by
  funext out3 held4 many5 s8 s9 s10
  exact IH out3 held4 many5 s8 s9 s10
 show _=qqs (fun out3 held4 many5 s8 s9 s10=>K (.exit 2) (frOf [(3,(.dat (.sl .byte) out3 (some (3,5)))),(4,(.dat (.int .i64) held4 none)),(5,(.dat (.int .i64) many5 none)),(8,(.dat (.sl .byte) s8 none)),(9,(.dat (.int .i64) s9 none)),(10,(.dat (.int .i64) s10 none))])) (qdW (fun out3 held4 many5 s8 s9 s10=>K (.exit 2) (frOf [(3,(.dat (.sl .byte) out3 (some (3,5)))),(4,(.dat (.int .i64) held4 none)),(5,(.dat (.int .i64) many5 none)),(8,(.dat (.sl .byte) s8 none)),(9,(.dat (.int .i64) s9 none)),(10,(.dat (.int .i64) s10 none))])) n) n out3 held4 many5 s8 s9 s10
 rw [← ih]
 kernel_rfl
theorem qmn (K:Ex→Fr→Option AV) (n:Nat) (out3:List UInt8) (held4:Int) (many5:Int) (s8:List UInt8) (s9:Int) (s10:Int):(qc 2 (E_z88.cutb 2) (kSeq (evCP E_z88 (evLP E_z88 n) (sub C_z88 [1,1,1,0,1,0,0,1,1,0,0,1,1,1,1])) (qc 1 (E_z88.cutb 1) (kSeq (evCP E_z88 (evLP E_z88 n) (sub C_z88 [1,1,1,0,1,0,0,1,1,1])) (kSeq (fun K fr=>evLP E_z88 n (sub C_z88 [1,1,1,0,1,0,0]) K (cutFP (E_z88.cuts 4) fr)) K))))) (.exit 2) (frOf [(3,(.dat (.sl .byte) out3 (some (3,5)))),(4,(.dat (.int .i64) held4 none)),(5,(.dat (.int .i64) many5 none)),(8,(.dat (.sl .byte) s8 none)),(9,(.dat (.int .i64) s9 none)),(10,(.dat (.int .i64) s10 none))])=qbS (fun out3 held4 many5=>K (.exit 0) (frOf [(3,(.dat (.sl .byte) out3 (some (3,5)))),(4,(.dat (.int .i64) held4 none)),(5,(.dat (.int .i64) many5 none))])) (fun out3 held4 many5 s8 s9 s10=>evLP E_z88 n (sub C_z88 [1,1,1,0,1,0,0]) K (frOf [(3,(.dat (.sl .byte) out3 (some (3,5)))),(4,(.dat (.int .i64) held4 none)),(5,(.dat (.int .i64) many5 none)),(8,(.dat (.sl .byte) s8 none)),(9,(.dat (.int .i64) s9 none)),(10,(.dat (.int .i64) s10 none))])) n out3 held4 many5 s8 s9 s10:=by
 kernel_rfl
theorem qsB (K:Ex→Fr→Option AV):∀ (n:Nat) (out3:List UInt8) (held4:Int) (many5:Int) (s8:List UInt8) (s9:Int) (s10:Int),evLP E_z88 n (sub C_z88 [1,1,1,0,1,0,0]) K (frOf [(3,(.dat (.sl .byte) out3 (some (3,5)))),(4,(.dat (.int .i64) held4 none)),(5,(.dat (.int .i64) many5 none)),(8,(.dat (.sl .byte) s8 none)),(9,(.dat (.int .i64) s9 none)),(10,(.dat (.int .i64) s10 none))])=qjU (fun out3 held4 many5=>K (.exit 0) (frOf [(3,(.dat (.sl .byte) out3 (some (3,5)))),(4,(.dat (.int .i64) held4 none)),(5,(.dat (.int .i64) many5 none))])) n out3 held4 many5 s8 s9 s10:=by
 intro n
 induction n with
 | zero=>intros; rfl
 | succ n IH =>
 intro out3 held4 many5 s8 s9 s10
 have ih:(fun out3 held4 many5 s8 s9 s10=>evLP E_z88 n (sub C_z88 [1,1,1,0,1,0,0]) K (frOf [(3,(.dat (.sl .byte) out3 (some (3,5)))),(4,(.dat (.int .i64) held4 none)),(5,(.dat (.int .i64) many5 none)),(8,(.dat (.sl .byte) s8 none)),(9,(.dat (.int .i64) s9 none)),(10,(.dat (.int .i64) s10 none))]))=qjU (fun out3 held4 many5=>K (.exit 0) (frOf [(3,(.dat (.sl .byte) out3 (some (3,5)))),(4,(.dat (.int .i64) held4 none)),(5,(.dat (.int .i64) many5 none))])) n:=by
  funext out3 held4 many5 s8 s9 s10
  exact IH out3 held4 many5 s8 s9 s10
 show _=qcE (fun out3 held4 many5=>K (.exit 0) (frOf [(3,(.dat (.sl .byte) out3 (some (3,5)))),(4,(.dat (.int .i64) held4 none)),(5,(.dat (.int .i64) many5 none))])) (qjU (fun out3 held4 many5=>K (.exit 0) (frOf [(3,(.dat (.sl .byte) out3 (some (3,5)))),(4,(.dat (.int .i64) held4 none)),(5,(.dat (.int .i64) many5 none))])) n) n out3 held4 many5 s8 s9 s10
 rw [← ih]
 unfold qcE
 rw [show qdW (qbS (fun out3 held4 many5=>K (.exit 0) (frOf [(3,(.dat (.sl .byte) out3 (some (3,5)))),(4,(.dat (.int .i64) held4 none)),(5,(.dat (.int .i64) many5 none))])) (fun out3 held4 many5 s8 s9 s10=>evLP E_z88 n (sub C_z88 [1,1,1,0,1,0,0]) K (frOf [(3,(.dat (.sl .byte) out3 (some (3,5)))),(4,(.dat (.int .i64) held4 none)),(5,(.dat (.int .i64) many5 none)),(8,(.dat (.sl .byte) s8 none)),(9,(.dat (.int .i64) s9 none)),(10,(.dat (.int .i64) s10 none))])) n) n=(fun out3 held4 many5 s8 s9 s10=>evLP E_z88 n (sub C_z88 [1,1,1,0,1,0,0,1,1,0,0,1,1,1,0,0,0]) (qc 2 (E_z88.cutb 2) (kSeq (evCP E_z88 (evLP E_z88 n) (sub C_z88 [1,1,1,0,1,0,0,1,1,0,0,1,1,1,1])) (qc 1 (E_z88.cutb 1) (kSeq (evCP E_z88 (evLP E_z88 n) (sub C_z88 [1,1,1,0,1,0,0,1,1,1])) (kSeq (fun K fr=>evLP E_z88 n (sub C_z88 [1,1,1,0,1,0,0]) K (cutFP (E_z88.cuts 4) fr)) K))))) (frOf [(3,(.dat (.sl .byte) out3 (some (3,5)))),(4,(.dat (.int .i64) held4 none)),(5,(.dat (.int .i64) many5 none)),(8,(.dat (.sl .byte) s8 none)),(9,(.dat (.int .i64) s9 none)),(10,(.dat (.int .i64) s10 none))])) from by
  funext out3 held4 many5 s8 s9 s10
  refine Eq.trans ?_ (qsA (qc 2 (E_z88.cutb 2) (kSeq (evCP E_z88 (evLP E_z88 n) (sub C_z88 [1,1,1,0,1,0,0,1,1,0,0,1,1,1,1])) (qc 1 (E_z88.cutb 1) (kSeq (evCP E_z88 (evLP E_z88 n) (sub C_z88 [1,1,1,0,1,0,0,1,1,1])) (kSeq (fun K fr=>evLP E_z88 n (sub C_z88 [1,1,1,0,1,0,0]) K (cutFP (E_z88.cuts 4) fr)) K))))) n out3 held4 many5 s8 s9 s10).symm
  rw [show (fun out3 held4 many5 s8 s9 s10=>(qc 2 (E_z88.cutb 2) (kSeq (evCP E_z88 (evLP E_z88 n) (sub C_z88 [1,1,1,0,1,0,0,1,1,0,0,1,1,1,1])) (qc 1 (E_z88.cutb 1) (kSeq (evCP E_z88 (evLP E_z88 n) (sub C_z88 [1,1,1,0,1,0,0,1,1,1])) (kSeq (fun K fr=>evLP E_z88 n (sub C_z88 [1,1,1,0,1,0,0]) K (cutFP (E_z88.cuts 4) fr)) K))))) (.exit 2) (frOf [(3,(.dat (.sl .byte) out3 (some (3,5)))),(4,(.dat (.int .i64) held4 none)),(5,(.dat (.int .i64) many5 none)),(8,(.dat (.sl .byte) s8 none)),(9,(.dat (.int .i64) s9 none)),(10,(.dat (.int .i64) s10 none))]))=(qbS (fun out3 held4 many5=>K (.exit 0) (frOf [(3,(.dat (.sl .byte) out3 (some (3,5)))),(4,(.dat (.int .i64) held4 none)),(5,(.dat (.int .i64) many5 none))])) (fun out3 held4 many5 s8 s9 s10=>evLP E_z88 n (sub C_z88 [1,1,1,0,1,0,0]) K (frOf [(3,(.dat (.sl .byte) out3 (some (3,5)))),(4,(.dat (.int .i64) held4 none)),(5,(.dat (.int .i64) many5 none)),(8,(.dat (.sl .byte) s8 none)),(9,(.dat (.int .i64) s9 none)),(10,(.dat (.int .i64) s10 none))])) n) from by
   funext out3 held4 many5 s8 s9 s10
   exact qmn K n out3 held4 many5 s8 s9 s10]
  all_goals kernel_rfl]
 kernel_rfl
theorem qmo (n:Nat) (out3:List UInt8) (held4:Int) (many5:Int):(qc 0 (E_z88.cutb 0) (kSeq (evCP E_z88 (evLP E_z88 n) (sub C_z88 [1,1,1,1])) (kFnP E_z88 R_z88))) (.exit 0) (frOf [(3,(.dat (.sl .byte) out3 (some (3,5)))),(4,(.dat (.int .i64) held4 none)),(5,(.dat (.int .i64) many5 none))])=qcF n out3 held4 many5:=by
 kernel_rfl
theorem qCk (n:Nat) (s0:List UInt8) (o0:Lab):evFnP E_z88 n C_z88 R_z88 [.dat (.sl .byte) s0 o0]=qtN n s0:=by
 unfold qtN
 rw [show qjU (qcF n) n=(fun out3 held4 many5 s8 s9 s10=>evLP E_z88 n (sub C_z88 [1,1,1,0,1,0,0]) (qc 0 (E_z88.cutb 0) (kSeq (evCP E_z88 (evLP E_z88 n) (sub C_z88 [1,1,1,1])) (kFnP E_z88 R_z88))) (frOf [(3,(.dat (.sl .byte) out3 (some (3,5)))),(4,(.dat (.int .i64) held4 none)),(5,(.dat (.int .i64) many5 none)),(8,(.dat (.sl .byte) s8 none)),(9,(.dat (.int .i64) s9 none)),(10,(.dat (.int .i64) s10 none))])) from by
  funext out3 held4 many5 s8 s9 s10
  refine Eq.trans ?_ (qsB (qc 0 (E_z88.cutb 0) (kSeq (evCP E_z88 (evLP E_z88 n) (sub C_z88 [1,1,1,1])) (kFnP E_z88 R_z88))) n out3 held4 many5 s8 s9 s10).symm
  rw [show (fun out3 held4 many5=>(qc 0 (E_z88.cutb 0) (kSeq (evCP E_z88 (evLP E_z88 n) (sub C_z88 [1,1,1,1])) (kFnP E_z88 R_z88))) (.exit 0) (frOf [(3,(.dat (.sl .byte) out3 (some (3,5)))),(4,(.dat (.int .i64) held4 none)),(5,(.dat (.int .i64) many5 none))]))=(qcF n) from by
   funext out3 held4 many5
   exact qmo n out3 held4 many5]
  all_goals kernel_rfl]
 kernel_rfl
theorem qsC:qg G Tryz.prog 88 s_z88:=by
 refine sQ (E:=E_z88) (c:=C_z88) rfl (fun w S hg=>(qb (qoB w S hg) qd)) Tryz.func88 ?_
 intro avs r h
 unfold s_z88 at h
 split at h
 ·obtain ⟨hp,rfl⟩:=Prod.mk.inj h
  obtain ⟨n,hn⟩:=qwN _ hp
  exact ⟨n,_,(qCk n _ _).trans hn,.inl rfl⟩
 ·cases h
theorem qsD:qg G Tryz.prog 47 s_z47:=fun w S hg vals avs r h hS ha=>by
 unfold s_z47 at h
 split at h
 ·rename_i s o
  simp only [Prod.mk.injEq] at h
  obtain ⟨hp,rfl⟩:=h
  obtain ⟨u,rfl,h1⟩:=args1 ha
  obtain ⟨A,cap,rfl,hcap,hA,hcA⟩:=qdS h1
  have hent:(callFunc 47 #[.slice A (List.length s) cap]).run Tryz.prog w=.ok (.enter 47 #[.slice A (List.length s) cap]) w:=enters_of (c:=Tryz.f47.body.getD .skip) Tryz.func47 (by kernel_rfl) (by kernel_rfl) _ _
  refine .inl ⟨hent,(Go.Proofs.lay_walk (S:=S) (qo hp) ?_).mono ?_⟩
  ·intro w' hb
   have hk:Keeps w S w' S:=fun b o hs=>⟨hs,qh (hb.block b (hS b o hs)) o⟩
   have hS':∀ b o,S b o→b < w'.heap.size:=fun b o hs=>Nat.lt_of_lt_of_le (hS b o hs) hb.size
   rcases qsC w' S (G_stays w S w' S hk hg) [.slice A (List.length s) cap] [.dat (.sl .byte) s none] _ (show s_z88 _=(true,_) from Prod.ext hp rfl) hS' (qgb ((h1.keeps hk).relab none) (qhJ _ _)) with ⟨_,h2⟩ | ⟨v,w2,h2,_⟩
   ·refine h2.mono fun e w2 ⟨v,he,S2,g2,hr⟩=>?_
    obtain ⟨A',cap',rfl,_,hA',hc'⟩:=qdS hr.rd
    refine ⟨A',cap',he,g2.below,hA',fun ad ha' i x hx=>?_⟩
    have hi:=(List.getElem?_eq_some_iff.1 hx).1
    have hx':(z88 s)[i]? = some x:=hx
    have:=hc' ad ha' i hi
    rw [List.getD_eq_getElem?_getD,List.getElem?_map,hx'] at this
    exact this
   ·exfalso
    have:(callFunc 88 #[.slice A (List.length s) cap]).run Tryz.prog w'=.ok (.enter 88 #[.slice A (List.length s) cap]) w':=enters_of (c:=Tryz.f88.body.getD .skip) Tryz.func88 (by kernel_rfl) (by kernel_rfl) _ _
    rw [this] at h2
    cases h2
  ·rintro e w' ⟨v,rfl,hf,hb⟩
   exact ⟨v,rfl,Go.Proofs.res_fresh hS hb hf⟩
 ·cases h
def qzy:EnvP:=eQ [] 19 (some [2]) nC (fun x=>if x=0 then some [] else none) nP
def qzz:Code:=cO Tryz.f133
def qCl:Array ResultVar:=Tryz.f133.results
theorem qzA (n:Nat) (charset0:Int) (o0:Lab):evFnP qzy n qzz qCl [.dat (.int .i64) charset0 o0]=qqt n charset0:=by
 kernel_rfl
theorem qir:qg G Tryz.prog 133 s_z133:=by
 refine sQ (E:=qzy) (c:=qzz) rfl (fun w S hg=>qd) Tryz.func133 ?_
 intro avs r h
 unfold s_z133 at h
 split at h <;> cases h
 obtain ⟨n,hn⟩:=quA _
 exact ⟨n,_,(qzA n _ _).trans hn,.inl rfl⟩
def E_z89:EnvP:=eQ [(133,s_z133)] 12 (some [2]) nC nC nP
def C_z89:Code:=cO Tryz.f89
def R_z89:Array ResultVar:=Tryz.f89.results
theorem qCm (n:Nat) (charset0:Int) (o0:Lab):evFnP E_z89 n C_z89 R_z89 [.dat (.int .i64) charset0 o0]=qxl n charset0:=by
 kernel_rfl
theorem qsE:qg G Tryz.prog 89 s_z89:=by
 refine sQ (E:=E_z89) (c:=C_z89) rfl (fun w S hg=>(qb (qir w S hg) qd)) Tryz.func89 ?_
 intro avs r h
 unfold s_z89 at h
 split at h <;> cases h
 obtain ⟨n,hn⟩:=qxW _
 exact ⟨n,_,(qCm n _ _).trans hn,.inl rfl⟩
def E_z48:EnvP:=eQ [(45,s_z45),(89,s_z89)] 13 (some [4]) nC nC nP
def C_z48:Code:=cO Tryz.f48
def R_z48:Array ResultVar:=Tryz.f48.results
theorem qCn (n:Nat) (charset0:Int) (o0:Lab) (code1:Int) (o1:Lab):evFnP E_z48 n C_z48 R_z48 [.dat (.int .i64) charset0 o0,.dat (.int .i64) code1 o1]=qxm n charset0 code1:=by
 kernel_rfl
theorem qkW:qg G Tryz.prog 48 s_z48:=by
 refine sQ (E:=E_z48) (c:=C_z48) rfl (fun w S hg=>(qb (qkU w S hg) (qb (qsE w S hg) qd))) Tryz.func48 ?_
 intro avs r h
 unfold s_z48 at h
 split at h <;> cases h
 obtain ⟨n,hn⟩:=qxZ _ _
 exact ⟨n,_,(qCn n _ _ _ _).trans hn,.inl rfl⟩
end
end Go.Av
