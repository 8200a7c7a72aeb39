import Derived.Test.YtopepdfipgfakaaGreatDoorEfEvB
import Derived.Test.YtopepdfipgfakaaGreatDoorEfLayX
import Derived.Test.YtopepdfipgfakaaGreatDoorProg
import Derived.KernelRfl
namespace Go.Av
noncomputable section
open Go.Proofs
set_option maxRecDepth 100000
def E_z89:EnvP:=eQ [(133,s_z133)] 12 (some [2]) nC nC nP
def C_z89:Code:=cO Tryz.f89
def R_z89:Array ResultVar:=Tryz.f89.results
theorem qKw (n:Nat) (charset0:Int) (o0:Lab):evFnP E_z89 n C_z89 R_z89 [.dat (.int .i64) charset0 o0]=qEn n charset0:=by
 kernel_rfl
theorem qys:qe G Tryz.prog 89 s_z89:=by
 refine sQ (E:=E_z89) (c:=C_z89) rfl (fun w S hg=>(qa (qkY w S hg) qd)) Tryz.func89 ?_
 intro avs r h
 unfold s_z89 at h
 split at h <;> cases h
 obtain ⟨n,hn⟩:=qFo _
 exact ⟨n,_,(qKw n _ _).trans hn,.inl rfl⟩
def E_z48:EnvP:=eQ [(45,s_z45),(89,s_z89)] 13 (some [4]) nC nC nP
def C_z48:Code:=cO Tryz.f48
def R_z48:Array ResultVar:=Tryz.f48.results
theorem qKx (n:Nat) (charset0:Int) (o0:Lab) (code1:Int) (o1:Lab):evFnP E_z48 n C_z48 R_z48 [.dat (.int .i64) charset0 o0,.dat (.int .i64) code1 o1]=qEo n charset0 code1:=by
 kernel_rfl
theorem qov:qe G Tryz.prog 48 s_z48:=by
 refine sQ (E:=E_z48) (c:=C_z48) rfl (fun w S hg=>(qa (qot w S hg) (qa (qys w S hg) qd))) Tryz.func48 ?_
 intro avs r h
 unfold s_z48 at h
 split at h <;> cases h
 obtain ⟨n,hn⟩:=qFr _ _
 exact ⟨n,_,(qKx n _ _ _ _).trans hn,.inl rfl⟩
def E_z15:EnvP:=eQ [(44,s_z44),(45,s_z45),(46,s_z46),(47,s_z47),(48,s_z48)] 41 (some [1000006,7]) nC (fun x=>if x=0 then some [0,1,2] else none) (fun x=>if x=32 then some (.osl 5 .byte) else if x=34 then some (.osl 5 .byte) else if x=36 then some (.osl 5 .byte) else none)
def C_z15:Code:=cO Tryz.f15
def R_z15:Array ResultVar:=Tryz.f15.results
theorem qKy (n:Nat) (charset0:Int) (o0:Lab) (code1:Int) (o1:Lab) (s2:LU) (o2:Lab):evFnP E_z15 n C_z15 R_z15 [.dat (.int .i64) charset0 o0,.dat (.int .i64) code1 o1,.dat (.sl .byte) s2 o2]=qEp n charset0 code1 s2:=by
 kernel_rfl
theorem qyt:qe G Tryz.prog 15 s_z15:=by
 refine sQ (E:=E_z15) (c:=C_z15) rfl (fun w S hg=>(qa (qos w S hg) (qa (qot w S hg) (qa (qyn w S hg) (qa (qyr w S hg) (qa (qov w S hg) qd)))))) Tryz.func15 ?_
 intro avs r h
 unfold s_z15 at h
 split at h
 ·obtain ⟨hp,rfl⟩:=Prod.mk.inj h
  obtain ⟨n,hn⟩:=qDI _ _ _ hp
  exact ⟨n,_,(qKy n _ _ _ _ _ _).trans hn,.inl rfl⟩
 ·cases h
def E_z17:EnvP:=eQ [(44,s_z44),(48,s_z48)] 11 (some [2]) nC nC nP
def C_z17:Code:=cO Tryz.f17
def R_z17:Array ResultVar:=Tryz.f17.results
theorem qKz (n:Nat) (charset0:Int) (o0:Lab):evFnP E_z17 n C_z17 R_z17 [.dat (.int .i64) charset0 o0]=qEq n charset0:=by
 kernel_rfl
theorem qyu:qe G Tryz.prog 17 s_z17:=by
 refine sQ (E:=E_z17) (c:=C_z17) rfl (fun w S hg=>(qa (qos w S hg) (qa (qov w S hg) qd))) Tryz.func17 ?_
 intro avs r h
 unfold s_z17 at h
 split at h <;> cases h
 obtain ⟨n,hn⟩:=qFs _
 exact ⟨n,_,(qKz n _ _).trans hn,.inl rfl⟩
def E_z97:EnvP:=eQ [] 23 (some [2]) (fun x=>if x=3 then some [3,9,10,11] else none) (fun x=>if x=0 then some [3] else if x=1 then some [3,9,10,11] else none) (fun x=>if x=8 then some (.psl 21 (.leaf (.int .i32))) else none)
def C_z97:Code:=cO Tryz.f97
def R_z97:Array ResultVar:=Tryz.f97.results
theorem qyv (K:Ex→Fr→OA):∀ (n:Nat) (t3:LI) (s9:LU) (s10:Int) (s11:Int),evLP E_z97 n (sub C_z97 [1,1,0,1,0,0]) K (frOf [(3,(.pv (.psl 21 (.leaf (.int .i32))) t3 none)),(9,(.dat (.sl .byte) s9 none)),(10,(.dat (.int .i64) s10 none)),(11,(.dat (.int .i64) s11 none))])=qnk (fun t3=>K (.exit 0) (frOf [(3,(.pv (.psl 21 (.leaf (.int .i32))) t3 none))])) n t3 s9 s10 s11:=by
 intro n
 induction n with
 | zero=>intros; rfl
 | succ n IH =>
 intro t3 s9 s10 s11
 have ih:(fun t3 s9 s10 s11=>evLP E_z97 n (sub C_z97 [1,1,0,1,0,0]) K (frOf [(3,(.pv (.psl 21 (.leaf (.int .i32))) t3 none)),(9,(.dat (.sl .byte) s9 none)),(10,(.dat (.int .i64) s10 none)),(11,(.dat (.int .i64) s11 none))]))=qnk (fun t3=>K (.exit 0) (frOf [(3,(.pv (.psl 21 (.leaf (.int .i32))) t3 none))])) n:=by
  funext t3 s9 s10 s11
  exact IH t3 s9 s10 s11
 show _=qfm (fun t3=>K (.exit 0) (frOf [(3,(.pv (.psl 21 (.leaf (.int .i32))) t3 none))])) (qnk (fun t3=>K (.exit 0) (frOf [(3,(.pv (.psl 21 (.leaf (.int .i32))) t3 none))])) n) n t3 s9 s10 s11
 rw [← ih]
 kernel_rfl
theorem qqw (n:Nat) (t3:LI):(qb 0 (E_z97.cutb 0) (kSeq (evCP E_z97 (evLP E_z97 n) (sub C_z97 [1,1,1])) (kFnP E_z97 R_z97))) (.exit 0) (frOf [(3,(.pv (.psl 21 (.leaf (.int .i32))) t3 none))])=qhr n t3:=by
 kernel_rfl
theorem qKA (n:Nat) (s0:LU) (o0:Lab):evFnP E_z97 n C_z97 R_z97 [.dat (.sl .byte) s0 o0]=qAq n s0:=by
 unfold qAq
 rw [show qnk (qhr n) n=(fun t3 s9 s10 s11=>evLP E_z97 n (sub C_z97 [1,1,0,1,0,0]) (qb 0 (E_z97.cutb 0) (kSeq (evCP E_z97 (evLP E_z97 n) (sub C_z97 [1,1,1])) (kFnP E_z97 R_z97))) (frOf [(3,(.pv (.psl 21 (.leaf (.int .i32))) t3 none)),(9,(.dat (.sl .byte) s9 none)),(10,(.dat (.int .i64) s10 none)),(11,(.dat (.int .i64) s11 none))])) from by
  funext t3 s9 s10 s11
  refine Eq.trans ?_ (qyv (qb 0 (E_z97.cutb 0) (kSeq (evCP E_z97 (evLP E_z97 n) (sub C_z97 [1,1,1])) (kFnP E_z97 R_z97))) n t3 s9 s10 s11).symm
  rw [show (fun t3=>(qb 0 (E_z97.cutb 0) (kSeq (evCP E_z97 (evLP E_z97 n) (sub C_z97 [1,1,1])) (kFnP E_z97 R_z97))) (.exit 0) (frOf [(3,(.pv (.psl 21 (.leaf (.int .i32))) t3 none))]))=(qhr n) from by
   funext t3
   exact qqw n t3]
  all_goals kernel_rfl]
 kernel_rfl
theorem qow:qe G Tryz.prog 97 s_z97:=by
 refine sQ (E:=E_z97) (c:=C_z97) rfl (fun w S hg=>qd) Tryz.func97 ?_
 intro avs r h
 unfold s_z97 at h
 split at h
 ·obtain ⟨hp,rfl⟩:=Prod.mk.inj h
  obtain ⟨n,hn⟩:=qDl _ hp
  exact ⟨n,_,(qKA n _ _).trans hn,.inl rfl⟩
 ·cases h
def qHf:EnvP:=eQ [] 6 (some [2]) nC nC nP
def qHg:Code:=cO Tryz.f138
def qKB:Array ResultVar:=Tryz.f138.results
theorem qHh (n:Nat) (c0:Int) (o0:Lab):evFnP qHf n qHg qKB [.dat (.int .i32) c0 o0]=qvQ n c0:=by
 kernel_rfl
theorem qtc:qe G Tryz.prog 138 s_z138:=by
 refine sQ (E:=qHf) (c:=qHg) rfl (fun w S hg=>qd) Tryz.func138 ?_
 intro avs r h
 unfold s_z138 at h
 split at h <;> cases h
 obtain ⟨n,hn⟩:=qzy _
 exact ⟨n,_,(qHh n _ _).trans hn,.inl rfl⟩
def E_z93:EnvP:=eQ [(97,s_z97),(138,s_z138)] 24 (some [2]) (fun x=>if x=4 then some [3,4,9,10,11] else none) (fun x=>if x=0 then some [3] else if x=1 then some [3,4,9,10,11] else none) (fun x=>if x=8 then some (.psl 21 (.leaf (.int .i32))) else none)
def C_z93:Code:=cO Tryz.f93
def R_z93:Array ResultVar:=Tryz.f93.results
theorem qyw (K:Ex→Fr→OA):∀ (n:Nat) (t3:LI) (s10:Int) (s11:Int),evLP E_z93 n (sub C_z93 [1,1,1,0,1,0,0]) K (frOf [(3,(.pv (.psl 21 (.leaf (.int .i32))) t3 none)),(4,(.fn 138 [])),(9,(.pval 3 [])),(10,(.dat (.int .i64) s10 none)),(11,(.dat (.int .i64) s11 none))])=qnm (fun t3=>K (.exit 0) (frOf [(3,(.pv (.psl 21 (.leaf (.int .i32))) t3 none))])) n t3 s10 s11:=by
 intro n
 induction n with
 | zero=>intros; rfl
 | succ n IH =>
 intro t3 s10 s11
 have ih:(fun t3 s10 s11=>evLP E_z93 n (sub C_z93 [1,1,1,0,1,0,0]) K (frOf [(3,(.pv (.psl 21 (.leaf (.int .i32))) t3 none)),(4,(.fn 138 [])),(9,(.pval 3 [])),(10,(.dat (.int .i64) s10 none)),(11,(.dat (.int .i64) s11 none))]))=qnm (fun t3=>K (.exit 0) (frOf [(3,(.pv (.psl 21 (.leaf (.int .i32))) t3 none))])) n:=by
  funext t3 s10 s11
  exact IH t3 s10 s11
 show _=qfn (fun t3=>K (.exit 0) (frOf [(3,(.pv (.psl 21 (.leaf (.int .i32))) t3 none))])) (qnm (fun t3=>K (.exit 0) (frOf [(3,(.pv (.psl 21 (.leaf (.int .i32))) t3 none))])) n) n t3 s10 s11
 rw [← ih]
 kernel_rfl
theorem qqx (n:Nat) (t3:LI):(qb 0 (E_z93.cutb 0) (kSeq (evCP E_z93 (evLP E_z93 n) (sub C_z93 [1,1,1,1])) (kFnP E_z93 R_z93))) (.exit 0) (frOf [(3,(.pv (.psl 21 (.leaf (.int .i32))) t3 none))])=qhs n t3:=by
 kernel_rfl
theorem qKC (n:Nat) (s0:LU) (o0:Lab):evFnP E_z93 n C_z93 R_z93 [.dat (.sl .byte) s0 o0]=qAr n s0:=by
 unfold qAr
 rw [show qnm (qhs n) n=(fun t3 s10 s11=>evLP E_z93 n (sub C_z93 [1,1,1,0,1,0,0]) (qb 0 (E_z93.cutb 0) (kSeq (evCP E_z93 (evLP E_z93 n) (sub C_z93 [1,1,1,1])) (kFnP E_z93 R_z93))) (frOf [(3,(.pv (.psl 21 (.leaf (.int .i32))) t3 none)),(4,(.fn 138 [])),(9,(.pval 3 [])),(10,(.dat (.int .i64) s10 none)),(11,(.dat (.int .i64) s11 none))])) from by
  funext t3 s10 s11
  refine Eq.trans ?_ (qyw (qb 0 (E_z93.cutb 0) (kSeq (evCP E_z93 (evLP E_z93 n) (sub C_z93 [1,1,1,1])) (kFnP E_z93 R_z93))) n t3 s10 s11).symm
  rw [show (fun t3=>(qb 0 (E_z93.cutb 0) (kSeq (evCP E_z93 (evLP E_z93 n) (sub C_z93 [1,1,1,1])) (kFnP E_z93 R_z93))) (.exit 0) (frOf [(3,(.pv (.psl 21 (.leaf (.int .i32))) t3 none))]))=(qhs n) from by
   funext t3
   exact qqx n t3]
  all_goals kernel_rfl]
 kernel_rfl
theorem qyx:qe G Tryz.prog 93 s_z93:=by
 refine sQ (E:=E_z93) (c:=C_z93) rfl (fun w S hg=>(qa (qow w S hg) (qa (qtc w S hg) qd))) Tryz.func93 ?_
 intro avs r h
 unfold s_z93 at h
 split at h
 ·obtain ⟨hp,rfl⟩:=Prod.mk.inj h
  obtain ⟨n,hn⟩:=qDm _ hp
  exact ⟨n,_,(qKC n _ _).trans hn,.inl rfl⟩
 ·cases h
def qHi:EnvP:=eQ [] 10 (some [0]) nC nC nP
def qHj:Code:=cO Tryz.f185
def qKD:Array ResultVar:=Tryz.f185.results
theorem qHk (n:Nat)  : evFnP qHi n qHj qKD []=qBS n  := by
 kernel_rfl
theorem qtd:qe G Tryz.prog 185 s_z185:=by
 refine sQ (E:=qHi) (c:=qHj) rfl (fun w S hg=>qd) Tryz.func185 ?_
 intro avs r h
 unfold s_z185 at h
 split at h <;> cases h
 obtain ⟨n,hn⟩:=qBi
 exact ⟨n,_,(qHk n ).trans hn,.inl rfl⟩
def qbl:EnvP:=eQ [(185,s_z185)] 18 (some [2]) (fun x=>if x=2 then some [0,5,6] else none) (fun x=>if x=0 then some [0] else if x=1 then some [0,5,6] else none) nP
def qjC:Code:=cO Tryz.f139
def qte:Array ResultVar:=Tryz.f139.results
theorem qtf (K:Ex→Fr→OA):∀ (n:Nat) (x0:UInt8) (s5:List (UInt8×(Int×Unit))) (s6:Int),evLP qbl n (sub qjC [1,0,1,0,0]) K (frOf [(0,(.dat .byte x0 none)),(5,(.dat (.arr 8 (.pair .byte (.pair (.int .i32) .unit))) s5 none)),(6,(.dat (.int .i64) s6 none))])=qiy (fun s2=>K .ret (frOf [(2,(.dat (.int .i32) s2 none))])) (fun x0=>K (.exit 0) (frOf [(0,(.dat .byte x0 none))])) n x0 s5 s6:=by
 intro n
 induction n with
 | zero=>intros; rfl
 | succ n IH =>
 intro x0 s5 s6
 have ih:(fun x0 s5 s6=>evLP qbl n (sub qjC [1,0,1,0,0]) K (frOf [(0,(.dat .byte x0 none)),(5,(.dat (.arr 8 (.pair .byte (.pair (.int .i32) .unit))) s5 none)),(6,(.dat (.int .i64) s6 none))]))=qiy (fun s2=>K .ret (frOf [(2,(.dat (.int .i32) s2 none))])) (fun x0=>K (.exit 0) (frOf [(0,(.dat .byte x0 none))])) n:=by
  funext x0 s5 s6
  exact IH x0 s5 s6
 show _=qph (fun s2=>K .ret (frOf [(2,(.dat (.int .i32) s2 none))])) (fun x0=>K (.exit 0) (frOf [(0,(.dat .byte x0 none))])) (qiy (fun s2=>K .ret (frOf [(2,(.dat (.int .i32) s2 none))])) (fun x0=>K (.exit 0) (frOf [(0,(.dat .byte x0 none))])) n) n x0 s5 s6
 rw [← ih]
 kernel_rfl
theorem qmB (n:Nat) (x0:UInt8):(qb 0 (qbl.cutb 0) (kSeq (evCP qbl (evLP qbl n) (sub qjC [1,1])) (kFnP qbl qte))) (.exit 0) (frOf [(0,(.dat .byte x0 none))])=qgo n x0:=by
 kernel_rfl
theorem qHl (n:Nat) (x0:UInt8) (o0:Lab):evFnP qbl n qjC qte [.dat .byte x0 o0]=qpi n x0:=by
 unfold qpi
 rw [show qiy qar (qgo n) n=(fun x0 s5 s6=>evLP qbl n (sub qjC [1,0,1,0,0]) (qb 0 (qbl.cutb 0) (kSeq (evCP qbl (evLP qbl n) (sub qjC [1,1])) (kFnP qbl qte))) (frOf [(0,(.dat .byte x0 none)),(5,(.dat (.arr 8 (.pair .byte (.pair (.int .i32) .unit))) s5 none)),(6,(.dat (.int .i64) s6 none))])) from by
  funext x0 s5 s6
  refine Eq.trans ?_ (qtf (qb 0 (qbl.cutb 0) (kSeq (evCP qbl (evLP qbl n) (sub qjC [1,1])) (kFnP qbl qte))) n x0 s5 s6).symm
  rw [show (fun x0=>(qb 0 (qbl.cutb 0) (kSeq (evCP qbl (evLP qbl n) (sub qjC [1,1])) (kFnP qbl qte))) (.exit 0) (frOf [(0,(.dat .byte x0 none))]))=(qgo n) from by
   funext x0
   exact qmB n x0]
  all_goals kernel_rfl]
 kernel_rfl
theorem qtg:qe G Tryz.prog 139 s_z139:=by
 refine sQ (E:=qbl) (c:=qjC) rfl (fun w S hg=>(qa (qtd w S hg) qd)) Tryz.func139 ?_
 intro avs r h
 unfold s_z139 at h
 split at h <;> cases h
 obtain ⟨n,hn⟩:=qzz _
 exact ⟨n,_,(qHl n _ _).trans hn,.inl rfl⟩
def E_z94:EnvP:=eQ [(139,s_z139)] 19 (some [2]) (fun x=>if x=3 then some [3,6,7,8] else none) (fun x=>if x=0 then some [3] else if x=1 then some [3,6,7,8] else none) nP
def C_z94:Code:=cO Tryz.f94
def R_z94:Array ResultVar:=Tryz.f94.results
theorem qyy (K:Ex→Fr→OA):∀ (n:Nat) (t3:LI) (s6:LU) (s7:Int) (s8:Int),evLP E_z94 n (sub C_z94 [1,1,0,1,0,0]) K (frOf [(3,(.dat (.sl (.int .i32)) t3 (some (3,21)))),(6,(.dat (.sl .byte) s6 none)),(7,(.dat (.int .i64) s7 none)),(8,(.dat (.int .i64) s8 none))])=qnn (fun t3=>K (.exit 0) (frOf [(3,(.dat (.sl (.int .i32)) t3 (some (3,21))))])) n t3 s6 s7 s8:=by
 intro n
 induction n with
 | zero=>intros; rfl
 | succ n IH =>
 intro t3 s6 s7 s8
 have ih:(fun t3 s6 s7 s8=>evLP E_z94 n (sub C_z94 [1,1,0,1,0,0]) K (frOf [(3,(.dat (.sl (.int .i32)) t3 (some (3,21)))),(6,(.dat (.sl .byte) s6 none)),(7,(.dat (.int .i64) s7 none)),(8,(.dat (.int .i64) s8 none))]))=qnn (fun t3=>K (.exit 0) (frOf [(3,(.dat (.sl (.int .i32)) t3 (some (3,21))))])) n:=by
  funext t3 s6 s7 s8
  exact IH t3 s6 s7 s8
 show _=qfo (fun t3=>K (.exit 0) (frOf [(3,(.dat (.sl (.int .i32)) t3 (some (3,21))))])) (qnn (fun t3=>K (.exit 0) (frOf [(3,(.dat (.sl (.int .i32)) t3 (some (3,21))))])) n) n t3 s6 s7 s8
 rw [← ih]
 kernel_rfl
theorem qqy (n:Nat) (t3:LI):(qb 0 (E_z94.cutb 0) (kSeq (evCP E_z94 (evLP E_z94 n) (sub C_z94 [1,1,1])) (kFnP E_z94 R_z94))) (.exit 0) (frOf [(3,(.dat (.sl (.int .i32)) t3 (some (3,21))))])=qfp n t3:=by
 kernel_rfl
theorem qKE (n:Nat) (s0:LU) (o0:Lab):evFnP E_z94 n C_z94 R_z94 [.dat (.sl .byte) s0 o0]=qAs n s0:=by
 unfold qAs
 rw [show qnn (qfp n) n=(fun t3 s6 s7 s8=>evLP E_z94 n (sub C_z94 [1,1,0,1,0,0]) (qb 0 (E_z94.cutb 0) (kSeq (evCP E_z94 (evLP E_z94 n) (sub C_z94 [1,1,1])) (kFnP E_z94 R_z94))) (frOf [(3,(.dat (.sl (.int .i32)) t3 (some (3,21)))),(6,(.dat (.sl .byte) s6 none)),(7,(.dat (.int .i64) s7 none)),(8,(.dat (.int .i64) s8 none))])) from by
  funext t3 s6 s7 s8
  refine Eq.trans ?_ (qyy (qb 0 (E_z94.cutb 0) (kSeq (evCP E_z94 (evLP E_z94 n) (sub C_z94 [1,1,1])) (kFnP E_z94 R_z94))) n t3 s6 s7 s8).symm
  rw [show (fun t3=>(qb 0 (E_z94.cutb 0) (kSeq (evCP E_z94 (evLP E_z94 n) (sub C_z94 [1,1,1])) (kFnP E_z94 R_z94))) (.exit 0) (frOf [(3,(.dat (.sl (.int .i32)) t3 (some (3,21))))]))=(qfp n) from by
   funext t3
   exact qqy n t3]
  all_goals kernel_rfl]
 kernel_rfl
theorem qyz:qe G Tryz.prog 94 s_z94:=by
 refine sQ (E:=E_z94) (c:=C_z94) rfl (fun w S hg=>(qa (qtg w S hg) qd)) Tryz.func94 ?_
 intro avs r h
 unfold s_z94 at h
 split at h
 ·obtain ⟨hp,rfl⟩:=Prod.mk.inj h
  obtain ⟨n,hn⟩:=qDn _ hp
  exact ⟨n,_,(qKE n _ _).trans hn,.inl rfl⟩
 ·cases h
def qHm:EnvP:=⟨⟨tiOf tis,fnsOf [],cnsOf [],[],4,(fun _=>none),(fun _=>none),some [0]⟩,fun _=>none,fun _=>none,(fun x=>if x=500002 then [1] else []),fun _=>none,fun _=>none,fun _=>none,fun _=>none⟩
def qHn:Code:=cO Tryz.f186
def qKF:Array ResultVar:=Tryz.f186.results
theorem qHo (n:Nat)  : evFnP qHm n qHn qKF []=qBU n  := by
 kernel_rfl
theorem qth:qe G Tryz.prog 186 s_z186:=by
 refine qP G_stays (E:=qHm) (fn:=Tryz.f186) (c:=qHn) (qr rfl qfa) (fun w S hg=>⟨⟨qd,fun f sp h=>qcg f sp h w S⟩,qcj w S hg,(fun _ _ h=>by cases h),(fun f sp h=>qdi f sp h),(fun f it h=>qdj f it h),(fun t kt vt h=>qcn t kt vt h)⟩) follows Tryz.func186 (by kernel_rfl) (by kernel_rfl) (by kernel_rfl) ?_
 intro avs r h
 unfold s_z186 at h
 split at h <;> cases h
 obtain ⟨n,hn⟩:=qBj
 exact ⟨n,_,(qHo n ).trans hn,.inl rfl⟩
def qHp:EnvP:=eQ [(186,s_z186)] 20 (some [2]) nC nC nP
def qHq:Code:=cO Tryz.f140
def qKG:Array ResultVar:=Tryz.f140.results
theorem qHr (n:Nat) (x0:UInt8) (o0:Lab):evFnP qHp n qHq qKG [.dat .byte x0 o0]=qvU n x0:=by
 kernel_rfl
theorem qti:qe G Tryz.prog 140 s_z140:=by
 refine sQ (E:=qHp) (c:=qHq) rfl (fun w S hg=>(qa (qth w S hg) qd)) Tryz.func140 ?_
 intro avs r h
 unfold s_z140 at h
 split at h <;> cases h
 obtain ⟨n,hn⟩:=qzA _
 exact ⟨n,_,(qHr n _ _).trans hn,.inl rfl⟩
def E_z95:EnvP:=eQ [(140,s_z140)] 22 (some [2]) (fun x=>if x=3 then some [3,9,10,11] else none) (fun x=>if x=0 then some [3] else if x=1 then some [3,9,10,11] else none) nP
def C_z95:Code:=cO Tryz.f95
def R_z95:Array ResultVar:=Tryz.f95.results
theorem qyA (K:Ex→Fr→OA):∀ (n:Nat) (t3:LI) (s9:LU) (s10:Int) (s11:Int),evLP E_z95 n (sub C_z95 [1,1,0,1,0,0]) K (frOf [(3,(.dat (.sl (.int .i32)) t3 (some (3,21)))),(9,(.dat (.sl .byte) s9 none)),(10,(.dat (.int .i64) s10 none)),(11,(.dat (.int .i64) s11 none))])=qno (fun t3=>K (.exit 0) (frOf [(3,(.dat (.sl (.int .i32)) t3 (some (3,21))))])) n t3 s9 s10 s11:=by
 intro n
 induction n with
 | zero=>intros; rfl
 | succ n IH =>
 intro t3 s9 s10 s11
 have ih:(fun t3 s9 s10 s11=>evLP E_z95 n (sub C_z95 [1,1,0,1,0,0]) K (frOf [(3,(.dat (.sl (.int .i32)) t3 (some (3,21)))),(9,(.dat (.sl .byte) s9 none)),(10,(.dat (.int .i64) s10 none)),(11,(.dat (.int .i64) s11 none))]))=qno (fun t3=>K (.exit 0) (frOf [(3,(.dat (.sl (.int .i32)) t3 (some (3,21))))])) n:=by
  funext t3 s9 s10 s11
  exact IH t3 s9 s10 s11
 show _=qfq (fun t3=>K (.exit 0) (frOf [(3,(.dat (.sl (.int .i32)) t3 (some (3,21))))])) (qno (fun t3=>K (.exit 0) (frOf [(3,(.dat (.sl (.int .i32)) t3 (some (3,21))))])) n) n t3 s9 s10 s11
 rw [← ih]
 kernel_rfl
theorem qqz (n:Nat) (t3:LI):(qb 0 (E_z95.cutb 0) (kSeq (evCP E_z95 (evLP E_z95 n) (sub C_z95 [1,1,1])) (kFnP E_z95 R_z95))) (.exit 0) (frOf [(3,(.dat (.sl (.int .i32)) t3 (some (3,21))))])=qfr n t3:=by
 kernel_rfl
theorem qKH (n:Nat) (s0:LU) (o0:Lab):evFnP E_z95 n C_z95 R_z95 [.dat (.sl .byte) s0 o0]=qAt n s0:=by
 unfold qAt
 rw [show qno (qfr n) n=(fun t3 s9 s10 s11=>evLP E_z95 n (sub C_z95 [1,1,0,1,0,0]) (qb 0 (E_z95.cutb 0) (kSeq (evCP E_z95 (evLP E_z95 n) (sub C_z95 [1,1,1])) (kFnP E_z95 R_z95))) (frOf [(3,(.dat (.sl (.int .i32)) t3 (some (3,21)))),(9,(.dat (.sl .byte) s9 none)),(10,(.dat (.int .i64) s10 none)),(11,(.dat (.int .i64) s11 none))])) from by
  funext t3 s9 s10 s11
  refine Eq.trans ?_ (qyA (qb 0 (E_z95.cutb 0) (kSeq (evCP E_z95 (evLP E_z95 n) (sub C_z95 [1,1,1])) (kFnP E_z95 R_z95))) n t3 s9 s10 s11).symm
  rw [show (fun t3=>(qb 0 (E_z95.cutb 0) (kSeq (evCP E_z95 (evLP E_z95 n) (sub C_z95 [1,1,1])) (kFnP E_z95 R_z95))) (.exit 0) (frOf [(3,(.dat (.sl (.int .i32)) t3 (some (3,21))))]))=(qfr n) from by
   funext t3
   exact qqz n t3]
  all_goals kernel_rfl]
 kernel_rfl
theorem qyB:qe G Tryz.prog 95 s_z95:=by
 refine sQ (E:=E_z95) (c:=C_z95) rfl (fun w S hg=>(qa (qti w S hg) qd)) Tryz.func95 ?_
 intro avs r h
 unfold s_z95 at h
 split at h
 ·obtain ⟨hp,rfl⟩:=Prod.mk.inj h
  obtain ⟨n,hn⟩:=qDp _ hp
  exact ⟨n,_,(qKH n _ _).trans hn,.inl rfl⟩
 ·cases h
def qHs:EnvP:=eQ [] 11 (some [13]) nC nC (fun x=>if x=7 then some (.osl 21 (.int .i32)) else if x=10 then some (.osl 21 (.int .i32)) else none)
def qHt:Code:=cO Tryz.f142
def qKI:Array ResultVar:=Tryz.f142.results
theorem qHu (n:Nat) (c0:Int) (o0:Lab) (e1:Int) (o1:Lab) (x2:LI):evFnM qHs n qHt qKI [.dat (.int .i32) c0 o0,.dat (.int .i64) e1 o1,.pbox (.osl 21 (.int .i32)) x2 none]=qvV n c0 e1 x2:=by
 kernel_rfl
theorem qtj:qse G Tryz.prog 142 s_z142:=by
 refine qdx G_stays (E:=qHs) (fn:=Tryz.f142) (c:=qHt) (qr rfl qfa) (fun w S hg=>⟨⟨qd,fun f sp h=>qcg f sp h w S⟩,qcj w S hg,(fun _ _ h=>by cases h),(fun f sp h=>qdi f sp h),(fun f it h=>qdj f it h),(fun t kt vt h=>qcn t kt vt h)⟩) follows Tryz.func142 (by kernel_rfl) (by kernel_rfl) (by kernel_rfl) ?_
 intro avs r h
 unfold s_z142 at h
 split at h
 ·obtain ⟨hp,rfl⟩:=Prod.mk.inj h
  obtain ⟨n,hn⟩:=qAj _ _ _ hp
  exact ⟨n,(qHu n _ _ _ _ _).trans hn⟩
 ·cases h
def qHv:EnvP:=eQ [] 19 (some [2]) nC (fun x=>if x=0 then some [] else none) nP
def qHw:Code:=cO Tryz.f217
def qKJ:Array ResultVar:=Tryz.f217.results
theorem qHx (n:Nat) (c0:UInt8) (o0:Lab):evFnP qHv n qHw qKJ [.dat .byte c0 o0]=qvW n c0:=by
 kernel_rfl
theorem qkZ:qe G Tryz.prog 217 s_z217:=by
 refine sQ (E:=qHv) (c:=qHw) rfl (fun w S hg=>qd) Tryz.func217 ?_
 intro avs r h
 unfold s_z217 at h
 split at h <;> cases h
 obtain ⟨n,hn⟩:=qzZ _
 exact ⟨n,_,(qHx n _ _).trans hn,.inl rfl⟩
def qHy:EnvP:=eQ [] 6 (some [2]) nC nC nP
def qHz:Code:=cO Tryz.f235
def qKK:Array ResultVar:=Tryz.f235.results
theorem qHA (n:Nat) (c0:UInt8) (o0:Lab):evFnP qHy n qHz qKK [.dat .byte c0 o0]=qvY n c0:=by
 kernel_rfl
theorem qla:qe G Tryz.prog 235 s_z235:=by
 refine sQ (E:=qHy) (c:=qHz) rfl (fun w S hg=>qd) Tryz.func235 ?_
 intro avs r h
 unfold s_z235 at h
 split at h <;> cases h
 obtain ⟨n,hn⟩:=qAa _
 exact ⟨n,_,(qHA n _ _).trans hn,.inl rfl⟩
def qHB:EnvP:=eQ [(235,s_z235)] 40 (some [4]) nC (fun x=>if x=0 then some [1] else none) nP
def qHC:Code:=cO Tryz.f236
def qKL:Array ResultVar:=Tryz.f236.results
theorem qHD (n:Nat) (first0:UInt8) (o0:Lab) (c1:UInt8) (o1:Lab):evFnP qHB n qHC qKL [.dat .byte first0 o0,.dat .byte c1 o1]=qvZ n first0 c1:=by
 kernel_rfl
theorem qtk:qe G Tryz.prog 236 s_z236:=by
 refine sQ (E:=qHB) (c:=qHC) rfl (fun w S hg=>(qa (qla w S hg) qd)) Tryz.func236 ?_
 intro avs r h
 unfold s_z236 at h
 split at h <;> cases h
 obtain ⟨n,hn⟩:=qAb _ _
 exact ⟨n,_,(qHD n _ _ _ _).trans hn,.inl rfl⟩
end
end Go.Av
