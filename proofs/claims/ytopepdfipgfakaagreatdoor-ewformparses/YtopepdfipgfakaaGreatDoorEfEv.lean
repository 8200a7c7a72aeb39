import Derived.Test.YtopepdfipgfakaaGreatDoorEfEvH
import Derived.Test.YtopepdfipgfakaaGreatDoorEfLayX
import Derived.Test.YtopepdfipgfakaaGreatDoorProg
import Derived.KernelRfl
namespace Go.Av
set_option linter.unusedSimpArgs false
noncomputable section
open Go.Proofs
set_option maxRecDepth 100000
set_option linter.unusedVariables false
def E_z82:EnvP:=eQ [(128,s_z128)] 10 (some [4]) nC nC nP
def C_z82:Code:=cO Tryz.f82
def R_z82:Array ResultVar:=Tryz.f82.results
theorem qBH (n:Nat) (c0:UInt8) (o0:Lab) (kinds1:Int) (o1:Lab):evFnP E_z82 n C_z82 R_z82 [.dat .byte c0 o0,.dat (.int .i64) kinds1 o1]=qBo n c0 kinds1:=by
 kernel_rfl
theorem qsj:qg G Tryz.prog 82 s_z82:=by
 refine sQ (E:=E_z82) (c:=C_z82) rfl (fun w S hg=>(qb (qpH w S hg) qd)) Tryz.func82 ?_
 intro avs r h
 unfold s_z82 at h
 split at h <;> cases h
 obtain ⟨n,hn⟩:=qxE _ _
 exact ⟨n,_,(qBH n _ _ _ _).trans hn,.inl rfl⟩
def E_z43:EnvP:=eQ [(82,s_z82)] 22 (some [4]) (fun x=>if x=3 then some [0,1,5,6] else none) (fun x=>if x=0 then some [5] else if x=1 then some [0,1,5,6] else none) nP
def C_z43:Code:=cO Tryz.f43
def R_z43:Array ResultVar:=Tryz.f43.results
theorem qsk (K:Ex→Fr→Option AV):∀ (n:Nat) (s0:List UInt8) (kinds1:Int) (n5:Int) (i6:Int),evLP E_z43 n (sub C_z43 [1,1,0,1,0,0]) K (frOf [(0,(.dat (.sl .byte) s0 none)),(1,(.dat (.int .i64) kinds1 none)),(5,(.dat (.int .i64) n5 none)),(6,(.dat (.int .i64) i6 none))])=qhD (fun n5=>K (.exit 0) (frOf [(5,(.dat (.int .i64) n5 none))])) n s0 kinds1 n5 i6:=by
 intro n
 induction n with
 | zero=>intros; rfl
 | succ n IH =>
 intro s0 kinds1 n5 i6
 have ih:(fun s0 kinds1 n5 i6=>evLP E_z43 n (sub C_z43 [1,1,0,1,0,0]) K (frOf [(0,(.dat (.sl .byte) s0 none)),(1,(.dat (.int .i64) kinds1 none)),(5,(.dat (.int .i64) n5 none)),(6,(.dat (.int .i64) i6 none))]))=qhD (fun n5=>K (.exit 0) (frOf [(5,(.dat (.int .i64) n5 none))])) n:=by
  funext s0 kinds1 n5 i6
  exact IH s0 kinds1 n5 i6
 show _=qef (fun n5=>K (.exit 0) (frOf [(5,(.dat (.int .i64) n5 none))])) (qhD (fun n5=>K (.exit 0) (frOf [(5,(.dat (.int .i64) n5 none))])) n) n s0 kinds1 n5 i6
 rw [← ih]
 kernel_rfl
theorem qmi (n:Nat) (n5:Int):(qc 0 (E_z43.cutb 0) (kSeq (evCP E_z43 (evLP E_z43 n) (sub C_z43 [1,1,1])) (kFnP E_z43 R_z43))) (.exit 0) (frOf [(5,(.dat (.int .i64) n5 none))])=qfR n n5:=by
 kernel_rfl
theorem qBI (n:Nat) (s0:List UInt8) (o0:Lab) (kinds1:Int) (o1:Lab):evFnP E_z43 n C_z43 R_z43 [.dat (.sl .byte) s0 o0,.dat (.int .i64) kinds1 o1]=qtT n s0 kinds1:=by
 unfold qtT
 rw [show qhD (qfR n) n=(fun s0 kinds1 n5 i6=>evLP E_z43 n (sub C_z43 [1,1,0,1,0,0]) (qc 0 (E_z43.cutb 0) (kSeq (evCP E_z43 (evLP E_z43 n) (sub C_z43 [1,1,1])) (kFnP E_z43 R_z43))) (frOf [(0,(.dat (.sl .byte) s0 none)),(1,(.dat (.int .i64) kinds1 none)),(5,(.dat (.int .i64) n5 none)),(6,(.dat (.int .i64) i6 none))])) from by
  funext s0 kinds1 n5 i6
  refine Eq.trans ?_ (qsk (qc 0 (E_z43.cutb 0) (kSeq (evCP E_z43 (evLP E_z43 n) (sub C_z43 [1,1,1])) (kFnP E_z43 R_z43))) n s0 kinds1 n5 i6).symm
  rw [show (fun n5=>(qc 0 (E_z43.cutb 0) (kSeq (evCP E_z43 (evLP E_z43 n) (sub C_z43 [1,1,1])) (kFnP E_z43 R_z43))) (.exit 0) (frOf [(5,(.dat (.int .i64) n5 none))]))=(qfR n) from by
   funext n5
   exact qmi n n5]
  all_goals kernel_rfl]
 kernel_rfl
theorem qsl:qg G Tryz.prog 43 s_z43:=by
 refine sQ (E:=E_z43) (c:=C_z43) rfl (fun w S hg=>(qb (qsj w S hg) qd)) Tryz.func43 ?_
 intro avs r h
 unfold s_z43 at h
 split at h
 ·obtain ⟨hp,rfl⟩:=Prod.mk.inj h
  obtain ⟨n,hn⟩:=qxF _ _ hp
  exact ⟨n,_,(qBI n _ _ _ _).trans hn,.inl rfl⟩
 ·cases h
def E_z12:EnvP:=eQ [(41,s_z41),(42,s_z42),(43,s_z43)] 93 (some [2,3]) nC nC nP
def C_z12:Code:=cO Tryz.f12
def R_z12:Array ResultVar:=Tryz.f12.results
theorem qBJ (n:Nat) (s0:List UInt8) (o0:Lab):evFnP E_z12 n C_z12 R_z12 [.dat (.sl .byte) s0 o0]=qxz n s0:=by
 kernel_rfl
theorem qsm:qg G Tryz.prog 12 s_z12:=by
 refine sQ (E:=E_z12) (c:=C_z12) rfl (fun w S hg=>(qb (qsY w S hg) (qb (qta w S hg) (qb (qsl w S hg) qd)))) Tryz.func12 ?_
 intro avs r h
 unfold s_z12 at h
 split at h
 ·obtain ⟨hp,rfl⟩:=Prod.mk.inj h
  obtain ⟨n,hn⟩:=qxO _ hp
  exact ⟨n,_,(qBJ n _ _).trans hn,.inl rfl⟩
 ·cases h
def E_z13:EnvP:=eQ [] 26 (some [4]) (fun x=>if x=4 then some [0,1,5] else none) (fun x=>if x=0 then some [] else if x=1 then some [0,1,5] else none) nP
def C_z13:Code:=cO Tryz.f13
def R_z13:Array ResultVar:=Tryz.f13.results
theorem qsn (K:Ex→Fr→Option AV):∀ (n:Nat) (a0:List UInt8) (b1:List UInt8) (i5:Int),evLP E_z13 n (sub C_z13 [1,1,0,1,0,0]) K (frOf [(0,(.dat (.sl .byte) a0 none)),(1,(.dat (.sl .byte) b1 none)),(5,(.dat (.int .i64) i5 none))])=qhE (fun s4=>K .ret (frOf [(4,(.dat .bool s4 none))])) (K (.exit 0) (frOf [])) n a0 b1 i5:=by
 intro n
 induction n with
 | zero=>intros; rfl
 | succ n IH =>
 intro a0 b1 i5
 have ih:(fun a0 b1 i5=>evLP E_z13 n (sub C_z13 [1,1,0,1,0,0]) K (frOf [(0,(.dat (.sl .byte) a0 none)),(1,(.dat (.sl .byte) b1 none)),(5,(.dat (.int .i64) i5 none))]))=qhE (fun s4=>K .ret (frOf [(4,(.dat .bool s4 none))])) (K (.exit 0) (frOf [])) n:=by
  funext a0 b1 i5
  exact IH a0 b1 i5
 show _=qeg (fun s4=>K .ret (frOf [(4,(.dat .bool s4 none))])) (K (.exit 0) (frOf [])) (qhE (fun s4=>K .ret (frOf [(4,(.dat .bool s4 none))])) (K (.exit 0) (frOf [])) n) n a0 b1 i5
 rw [← ih]
 kernel_rfl
theorem qmj (n:Nat)  : (qc 0 (E_z13.cutb 0) (kSeq (evCP E_z13 (evLP E_z13 n) (sub C_z13 [1,1,1])) (kFnP E_z13 R_z13))) (.exit 0) (frOf [])=qhF n  := by
 kernel_rfl
theorem qBK (n:Nat) (a0:List UInt8) (o0:Lab) (b1:List UInt8) (o1:Lab):evFnP E_z13 n C_z13 R_z13 [.dat (.sl .byte) a0 o0,.dat (.sl .byte) b1 o1]=qtU n a0 b1:=by
 unfold qtU
 rw [show qhE qgv (qhF n) n=(fun a0 b1 i5=>evLP E_z13 n (sub C_z13 [1,1,0,1,0,0]) (qc 0 (E_z13.cutb 0) (kSeq (evCP E_z13 (evLP E_z13 n) (sub C_z13 [1,1,1])) (kFnP E_z13 R_z13))) (frOf [(0,(.dat (.sl .byte) a0 none)),(1,(.dat (.sl .byte) b1 none)),(5,(.dat (.int .i64) i5 none))])) from by
  funext a0 b1 i5
  refine Eq.trans ?_ (qsn (qc 0 (E_z13.cutb 0) (kSeq (evCP E_z13 (evLP E_z13 n) (sub C_z13 [1,1,1])) (kFnP E_z13 R_z13))) n a0 b1 i5).symm
  rw [show ((qc 0 (E_z13.cutb 0) (kSeq (evCP E_z13 (evLP E_z13 n) (sub C_z13 [1,1,1])) (kFnP E_z13 R_z13))) (.exit 0) (frOf []))=(qhF n) from by
   exact qmj n ]
  all_goals kernel_rfl]
 kernel_rfl
theorem qso:qg G Tryz.prog 13 s_z13:=by
 refine sQ (E:=E_z13) (c:=C_z13) rfl (fun w S hg=>qd) Tryz.func13 ?_
 intro avs r h
 unfold s_z13 at h
 split at h
 ·obtain ⟨hp,rfl⟩:=Prod.mk.inj h
  obtain ⟨n,hn⟩:=qxA _ _ hp
  exact ⟨n,_,(qBK n _ _ _ _).trans hn,.inl rfl⟩
 ·cases h
def E_z3:EnvP:=eQ [(10,s_z10),(11,s_z11),(12,s_z12),(13,s_z13),(14,s_z14)] 55 (some [2]) nC nC nP
def C_z3:Code:=cO Tryz.f3
def R_z3:Array ResultVar:=Tryz.f3.results
theorem z3_ev (n:Nat) (s0:List UInt8) (o0:Lab):evFnP E_z3 n C_z3 R_z3 [.dat (.sl .byte) s0 o0]=z3_sh n s0:=by
 kernel_rfl
theorem qwp:qg G Tryz.prog 3 s_z3:=by
 refine sQ (E:=E_z3) (c:=C_z3) rfl (fun w S hg=>(qb (qsW w S hg) (qb (qhk w S hg) (qb (qsm w S hg) (qb (qso w S hg) (qb (qkS w S hg) qd)))))) Tryz.func3 ?_
 intro avs r h
 unfold s_z3 at h
 split at h <;> cases h
 obtain ⟨n,hn⟩:=qBc _
 exact ⟨n,_,(z3_ev n _ _).trans hn,.inl rfl⟩
end
end Go.Av
