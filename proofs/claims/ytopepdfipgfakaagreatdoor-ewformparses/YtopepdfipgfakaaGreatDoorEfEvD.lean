import Derived.Test.YtopepdfipgfakaaGreatDoorEfEvC
import Derived.Test.YtopepdfipgfakaaGreatDoorEfLayX
import Derived.Test.YtopepdfipgfakaaGreatDoorProg
import Derived.KernelRfl
namespace Go.Av
set_option linter.unusedSimpArgs false
noncomputable section
open Go.Proofs
set_option maxRecDepth 100000
set_option linter.unusedVariables false
def E_z15:EnvP:=eQ [(44,s_z44),(45,s_z45),(46,s_z46),(47,s_z47),(48,s_z48)] 41 (some [1000006,7]) nC (fun x=>if x=0 then some [0,1,2] else none) (fun x=>if x=32 then some (.osl 5 .byte) else if x=34 then some (.osl 5 .byte) else if x=36 then some (.osl 5 .byte) else none)
def C_z15:Code:=cO Tryz.f15
def R_z15:Array ResultVar:=Tryz.f15.results
theorem qCo (n:Nat) (charset0:Int) (o0:Lab) (code1:Int) (o1:Lab) (s2:List UInt8) (o2:Lab):evFnP E_z15 n C_z15 R_z15 [.dat (.int .i64) charset0 o0,.dat (.int .i64) code1 o1,.dat (.sl .byte) s2 o2]=qxn n charset0 code1 s2:=by
 kernel_rfl
theorem qsF:qg G Tryz.prog 15 s_z15:=by
 refine sQ (E:=E_z15) (c:=C_z15) rfl (fun w S hg=>(qb (qkT w S hg) (qb (qkU w S hg) (qb (qsz w S hg) (qb (qsD w S hg) (qb (qkW w S hg) qd)))))) Tryz.func15 ?_
 intro avs r h
 unfold s_z15 at h
 split at h
 ·obtain ⟨hp,rfl⟩:=Prod.mk.inj h
  obtain ⟨n,hn⟩:=qwJ _ _ _ hp
  exact ⟨n,_,(qCo n _ _ _ _ _ _).trans hn,.inl rfl⟩
 ·cases h
def E_z17:EnvP:=eQ [(44,s_z44),(48,s_z48)] 11 (some [2]) nC nC nP
def C_z17:Code:=cO Tryz.f17
def R_z17:Array ResultVar:=Tryz.f17.results
theorem qCp (n:Nat) (charset0:Int) (o0:Lab):evFnP E_z17 n C_z17 R_z17 [.dat (.int .i64) charset0 o0]=qxo n charset0:=by
 kernel_rfl
theorem qsG:qg G Tryz.prog 17 s_z17:=by
 refine sQ (E:=E_z17) (c:=C_z17) rfl (fun w S hg=>(qb (qkT w S hg) (qb (qkW w S hg) qd))) Tryz.func17 ?_
 intro avs r h
 unfold s_z17 at h
 split at h <;> cases h
 obtain ⟨n,hn⟩:=qya _
 exact ⟨n,_,(qCp n _ _).trans hn,.inl rfl⟩
def E_z97:EnvP:=eQ [] 23 (some [2]) (fun x=>if x=3 then some [3,9,10,11] else none) (fun x=>if x=0 then some [3] else if x=1 then some [3,9,10,11] else none) (fun x=>if x=8 then some (.psl 21 (.leaf (.int .i32))) else none)
def C_z97:Code:=cO Tryz.f97
def R_z97:Array ResultVar:=Tryz.f97.results
theorem qsH (K:Ex→Fr→Option AV):∀ (n:Nat) (t3:List Int) (s9:List UInt8) (s10:Int) (s11:Int),evLP E_z97 n (sub C_z97 [1,1,0,1,0,0]) K (frOf [(3,(.pv (.psl 21 (.leaf (.int .i32))) t3 none)),(9,(.dat (.sl .byte) s9 none)),(10,(.dat (.int .i64) s10 none)),(11,(.dat (.int .i64) s11 none))])=qjV (fun t3=>K (.exit 0) (frOf [(3,(.pv (.psl 21 (.leaf (.int .i32))) t3 none))])) n t3 s9 s10 s11:=by
 intro n
 induction n with
 | zero=>intros; rfl
 | succ n IH =>
 intro t3 s9 s10 s11
 have ih:(fun t3 s9 s10 s11=>evLP E_z97 n (sub C_z97 [1,1,0,1,0,0]) K (frOf [(3,(.pv (.psl 21 (.leaf (.int .i32))) t3 none)),(9,(.dat (.sl .byte) s9 none)),(10,(.dat (.int .i64) s10 none)),(11,(.dat (.int .i64) s11 none))]))=qjV (fun t3=>K (.exit 0) (frOf [(3,(.pv (.psl 21 (.leaf (.int .i32))) t3 none))])) n:=by
  funext t3 s9 s10 s11
  exact IH t3 s9 s10 s11
 show _=qdX (fun t3=>K (.exit 0) (frOf [(3,(.pv (.psl 21 (.leaf (.int .i32))) t3 none))])) (qjV (fun t3=>K (.exit 0) (frOf [(3,(.pv (.psl 21 (.leaf (.int .i32))) t3 none))])) n) n t3 s9 s10 s11
 rw [← ih]
 kernel_rfl
theorem qmp (n:Nat) (t3:List Int):(qc 0 (E_z97.cutb 0) (kSeq (evCP E_z97 (evLP E_z97 n) (sub C_z97 [1,1,1])) (kFnP E_z97 R_z97))) (.exit 0) (frOf [(3,(.pv (.psl 21 (.leaf (.int .i32))) t3 none))])=qfF n t3:=by
 kernel_rfl
theorem qCq (n:Nat) (s0:List UInt8) (o0:Lab):evFnP E_z97 n C_z97 R_z97 [.dat (.sl .byte) s0 o0]=qtO n s0:=by
 unfold qtO
 rw [show qjV (qfF n) n=(fun t3 s9 s10 s11=>evLP E_z97 n (sub C_z97 [1,1,0,1,0,0]) (qc 0 (E_z97.cutb 0) (kSeq (evCP E_z97 (evLP E_z97 n) (sub C_z97 [1,1,1])) (kFnP E_z97 R_z97))) (frOf [(3,(.pv (.psl 21 (.leaf (.int .i32))) t3 none)),(9,(.dat (.sl .byte) s9 none)),(10,(.dat (.int .i64) s10 none)),(11,(.dat (.int .i64) s11 none))])) from by
  funext t3 s9 s10 s11
  refine Eq.trans ?_ (qsH (qc 0 (E_z97.cutb 0) (kSeq (evCP E_z97 (evLP E_z97 n) (sub C_z97 [1,1,1])) (kFnP E_z97 R_z97))) n t3 s9 s10 s11).symm
  rw [show (fun t3=>(qc 0 (E_z97.cutb 0) (kSeq (evCP E_z97 (evLP E_z97 n) (sub C_z97 [1,1,1])) (kFnP E_z97 R_z97))) (.exit 0) (frOf [(3,(.pv (.psl 21 (.leaf (.int .i32))) t3 none))]))=(qfF n) from by
   funext t3
   exact qmp n t3]
  all_goals kernel_rfl]
 kernel_rfl
theorem qkX:qg G Tryz.prog 97 s_z97:=by
 refine sQ (E:=E_z97) (c:=C_z97) rfl (fun w S hg=>qd) Tryz.func97 ?_
 intro avs r h
 unfold s_z97 at h
 split at h
 ·obtain ⟨hp,rfl⟩:=Prod.mk.inj h
  obtain ⟨n,hn⟩:=qwB _ hp
  exact ⟨n,_,(qCq n _ _).trans hn,.inl rfl⟩
 ·cases h
def qzB:EnvP:=eQ [] 6 (some [2]) nC nC nP
def qzC:Code:=cO Tryz.f138
def qCr:Array ResultVar:=Tryz.f138.results
theorem qzD (n:Nat) (c0:Int) (o0:Lab):evFnP qzB n qzC qCr [.dat (.int .i32) c0 o0]=qqw n c0:=by
 kernel_rfl
theorem qoC:qg G Tryz.prog 138 s_z138:=by
 refine sQ (E:=qzB) (c:=qzC) rfl (fun w S hg=>qd) Tryz.func138 ?_
 intro avs r h
 unfold s_z138 at h
 split at h <;> cases h
 obtain ⟨n,hn⟩:=qtp _
 exact ⟨n,_,(qzD n _ _).trans hn,.inl rfl⟩
def E_z93:EnvP:=eQ [(97,s_z97),(138,s_z138)] 24 (some [2]) (fun x=>if x=4 then some [3,4,9,10,11] else none) (fun x=>if x=0 then some [3] else if x=1 then some [3,4,9,10,11] else none) (fun x=>if x=8 then some (.psl 21 (.leaf (.int .i32))) else none)
def C_z93:Code:=cO Tryz.f93
def R_z93:Array ResultVar:=Tryz.f93.results
theorem qsI (K:Ex→Fr→Option AV):∀ (n:Nat) (t3:List Int) (s10:Int) (s11:Int),evLP E_z93 n (sub C_z93 [1,1,1,0,1,0,0]) K (frOf [(3,(.pv (.psl 21 (.leaf (.int .i32))) t3 none)),(4,(.fn 138 [])),(9,(.pval 3 [])),(10,(.dat (.int .i64) s10 none)),(11,(.dat (.int .i64) s11 none))])=qjX (fun t3=>K (.exit 0) (frOf [(3,(.pv (.psl 21 (.leaf (.int .i32))) t3 none))])) n t3 s10 s11:=by
 intro n
 induction n with
 | zero=>intros; rfl
 | succ n IH =>
 intro t3 s10 s11
 have ih:(fun t3 s10 s11=>evLP E_z93 n (sub C_z93 [1,1,1,0,1,0,0]) K (frOf [(3,(.pv (.psl 21 (.leaf (.int .i32))) t3 none)),(4,(.fn 138 [])),(9,(.pval 3 [])),(10,(.dat (.int .i64) s10 none)),(11,(.dat (.int .i64) s11 none))]))=qjX (fun t3=>K (.exit 0) (frOf [(3,(.pv (.psl 21 (.leaf (.int .i32))) t3 none))])) n:=by
  funext t3 s10 s11
  exact IH t3 s10 s11
 show _=qdY (fun t3=>K (.exit 0) (frOf [(3,(.pv (.psl 21 (.leaf (.int .i32))) t3 none))])) (qjX (fun t3=>K (.exit 0) (frOf [(3,(.pv (.psl 21 (.leaf (.int .i32))) t3 none))])) n) n t3 s10 s11
 rw [← ih]
 kernel_rfl
theorem qmq (n:Nat) (t3:List Int):(qc 0 (E_z93.cutb 0) (kSeq (evCP E_z93 (evLP E_z93 n) (sub C_z93 [1,1,1,1])) (kFnP E_z93 R_z93))) (.exit 0) (frOf [(3,(.pv (.psl 21 (.leaf (.int .i32))) t3 none))])=qfG n t3:=by
 kernel_rfl
theorem qCs (n:Nat) (s0:List UInt8) (o0:Lab):evFnP E_z93 n C_z93 R_z93 [.dat (.sl .byte) s0 o0]=qtP n s0:=by
 unfold qtP
 rw [show qjX (qfG n) n=(fun t3 s10 s11=>evLP E_z93 n (sub C_z93 [1,1,1,0,1,0,0]) (qc 0 (E_z93.cutb 0) (kSeq (evCP E_z93 (evLP E_z93 n) (sub C_z93 [1,1,1,1])) (kFnP E_z93 R_z93))) (frOf [(3,(.pv (.psl 21 (.leaf (.int .i32))) t3 none)),(4,(.fn 138 [])),(9,(.pval 3 [])),(10,(.dat (.int .i64) s10 none)),(11,(.dat (.int .i64) s11 none))])) from by
  funext t3 s10 s11
  refine Eq.trans ?_ (qsI (qc 0 (E_z93.cutb 0) (kSeq (evCP E_z93 (evLP E_z93 n) (sub C_z93 [1,1,1,1])) (kFnP E_z93 R_z93))) n t3 s10 s11).symm
  rw [show (fun t3=>(qc 0 (E_z93.cutb 0) (kSeq (evCP E_z93 (evLP E_z93 n) (sub C_z93 [1,1,1,1])) (kFnP E_z93 R_z93))) (.exit 0) (frOf [(3,(.pv (.psl 21 (.leaf (.int .i32))) t3 none))]))=(qfG n) from by
   funext t3
   exact qmq n t3]
  all_goals kernel_rfl]
 kernel_rfl
theorem qsJ:qg G Tryz.prog 93 s_z93:=by
 refine sQ (E:=E_z93) (c:=C_z93) rfl (fun w S hg=>(qb (qkX w S hg) (qb (qoC w S hg) qd))) Tryz.func93 ?_
 intro avs r h
 unfold s_z93 at h
 split at h
 ·obtain ⟨hp,rfl⟩:=Prod.mk.inj h
  obtain ⟨n,hn⟩:=qwC _ hp
  exact ⟨n,_,(qCs n _ _).trans hn,.inl rfl⟩
 ·cases h
def qzE:EnvP:=eQ [] 10 (some [0]) nC nC nP
def qzF:Code:=cO Tryz.f185
def qCt:Array ResultVar:=Tryz.f185.results
theorem qzG (n:Nat)  : evFnP qzE n qzF qCt []=qvf n  := by
 kernel_rfl
theorem qoD:qg G Tryz.prog 185 s_z185:=by
 refine sQ (E:=qzE) (c:=qzF) rfl (fun w S hg=>qd) Tryz.func185 ?_
 intro avs r h
 unfold s_z185 at h
 split at h <;> cases h
 obtain ⟨n,hn⟩:=quy
 exact ⟨n,_,(qzG n ).trans hn,.inl rfl⟩
def qaT:EnvP:=eQ [(185,s_z185)] 18 (some [2]) (fun x=>if x=2 then some [0,5,6] else none) (fun x=>if x=0 then some [0] else if x=1 then some [0,5,6] else none) nP
def qhl:Code:=cO Tryz.f139
def qoE:Array ResultVar:=Tryz.f139.results
theorem qoF (K:Ex→Fr→Option AV):∀ (n:Nat) (x0:UInt8) (s5:List (UInt8×(Int×Unit))) (s6:Int),evLP qaT n (sub qhl [1,0,1,0,0]) K (frOf [(0,(.dat .byte x0 none)),(5,(.dat (.arr 8 (.pair .byte (.pair (.int .i32) .unit))) s5 none)),(6,(.dat (.int .i64) s6 none))])=qgp (fun s2=>K .ret (frOf [(2,(.dat (.int .i32) s2 none))])) (fun x0=>K (.exit 0) (frOf [(0,(.dat .byte x0 none))])) n x0 s5 s6:=by
 intro n
 induction n with
 | zero=>intros; rfl
 | succ n IH =>
 intro x0 s5 s6
 have ih:(fun x0 s5 s6=>evLP qaT n (sub qhl [1,0,1,0,0]) K (frOf [(0,(.dat .byte x0 none)),(5,(.dat (.arr 8 (.pair .byte (.pair (.int .i32) .unit))) s5 none)),(6,(.dat (.int .i64) s6 none))]))=qgp (fun s2=>K .ret (frOf [(2,(.dat (.int .i32) s2 none))])) (fun x0=>K (.exit 0) (frOf [(0,(.dat .byte x0 none))])) n:=by
  funext x0 s5 s6
  exact IH x0 s5 s6
 show _=qlo (fun s2=>K .ret (frOf [(2,(.dat (.int .i32) s2 none))])) (fun x0=>K (.exit 0) (frOf [(0,(.dat .byte x0 none))])) (qgp (fun s2=>K .ret (frOf [(2,(.dat (.int .i32) s2 none))])) (fun x0=>K (.exit 0) (frOf [(0,(.dat .byte x0 none))])) n) n x0 s5 s6
 rw [← ih]
 kernel_rfl
theorem qjB (n:Nat) (x0:UInt8):(qc 0 (qaT.cutb 0) (kSeq (evCP qaT (evLP qaT n) (sub qhl [1,1])) (kFnP qaT qoE))) (.exit 0) (frOf [(0,(.dat .byte x0 none))])=qeM n x0:=by
 kernel_rfl
theorem qzH (n:Nat) (x0:UInt8) (o0:Lab):evFnP qaT n qhl qoE [.dat .byte x0 o0]=qlp n x0:=by
 unfold qlp
 rw [show qgp qai (qeM n) n=(fun x0 s5 s6=>evLP qaT n (sub qhl [1,0,1,0,0]) (qc 0 (qaT.cutb 0) (kSeq (evCP qaT (evLP qaT n) (sub qhl [1,1])) (kFnP qaT qoE))) (frOf [(0,(.dat .byte x0 none)),(5,(.dat (.arr 8 (.pair .byte (.pair (.int .i32) .unit))) s5 none)),(6,(.dat (.int .i64) s6 none))])) from by
  funext x0 s5 s6
  refine Eq.trans ?_ (qoF (qc 0 (qaT.cutb 0) (kSeq (evCP qaT (evLP qaT n) (sub qhl [1,1])) (kFnP qaT qoE))) n x0 s5 s6).symm
  rw [show (fun x0=>(qc 0 (qaT.cutb 0) (kSeq (evCP qaT (evLP qaT n) (sub qhl [1,1])) (kFnP qaT qoE))) (.exit 0) (frOf [(0,(.dat .byte x0 none))]))=(qeM n) from by
   funext x0
   exact qjB n x0]
  all_goals kernel_rfl]
 kernel_rfl
theorem qoG:qg G Tryz.prog 139 s_z139:=by
 refine sQ (E:=qaT) (c:=qhl) rfl (fun w S hg=>(qb (qoD w S hg) qd)) Tryz.func139 ?_
 intro avs r h
 unfold s_z139 at h
 split at h <;> cases h
 obtain ⟨n,hn⟩:=qtq _
 exact ⟨n,_,(qzH n _ _).trans hn,.inl rfl⟩
def E_z94:EnvP:=eQ [(139,s_z139)] 19 (some [2]) (fun x=>if x=3 then some [3,6,7,8] else none) (fun x=>if x=0 then some [3] else if x=1 then some [3,6,7,8] else none) nP
def C_z94:Code:=cO Tryz.f94
def R_z94:Array ResultVar:=Tryz.f94.results
theorem qsK (K:Ex→Fr→Option AV):∀ (n:Nat) (t3:List Int) (s6:List UInt8) (s7:Int) (s8:Int),evLP E_z94 n (sub C_z94 [1,1,0,1,0,0]) K (frOf [(3,(.dat (.sl (.int .i32)) t3 (some (3,21)))),(6,(.dat (.sl .byte) s6 none)),(7,(.dat (.int .i64) s7 none)),(8,(.dat (.int .i64) s8 none))])=qjY (fun t3=>K (.exit 0) (frOf [(3,(.dat (.sl (.int .i32)) t3 (some (3,21))))])) n t3 s6 s7 s8:=by
 intro n
 induction n with
 | zero=>intros; rfl
 | succ n IH =>
 intro t3 s6 s7 s8
 have ih:(fun t3 s6 s7 s8=>evLP E_z94 n (sub C_z94 [1,1,0,1,0,0]) K (frOf [(3,(.dat (.sl (.int .i32)) t3 (some (3,21)))),(6,(.dat (.sl .byte) s6 none)),(7,(.dat (.int .i64) s7 none)),(8,(.dat (.int .i64) s8 none))]))=qjY (fun t3=>K (.exit 0) (frOf [(3,(.dat (.sl (.int .i32)) t3 (some (3,21))))])) n:=by
  funext t3 s6 s7 s8
  exact IH t3 s6 s7 s8
 show _=qdZ (fun t3=>K (.exit 0) (frOf [(3,(.dat (.sl (.int .i32)) t3 (some (3,21))))])) (qjY (fun t3=>K (.exit 0) (frOf [(3,(.dat (.sl (.int .i32)) t3 (some (3,21))))])) n) n t3 s6 s7 s8
 rw [← ih]
 kernel_rfl
theorem qmr (n:Nat) (t3:List Int):(qc 0 (E_z94.cutb 0) (kSeq (evCP E_z94 (evLP E_z94 n) (sub C_z94 [1,1,1])) (kFnP E_z94 R_z94))) (.exit 0) (frOf [(3,(.dat (.sl (.int .i32)) t3 (some (3,21))))])=qea n t3:=by
 kernel_rfl
theorem qCu (n:Nat) (s0:List UInt8) (o0:Lab):evFnP E_z94 n C_z94 R_z94 [.dat (.sl .byte) s0 o0]=qtQ n s0:=by
 unfold qtQ
 rw [show qjY (qea n) n=(fun t3 s6 s7 s8=>evLP E_z94 n (sub C_z94 [1,1,0,1,0,0]) (qc 0 (E_z94.cutb 0) (kSeq (evCP E_z94 (evLP E_z94 n) (sub C_z94 [1,1,1])) (kFnP E_z94 R_z94))) (frOf [(3,(.dat (.sl (.int .i32)) t3 (some (3,21)))),(6,(.dat (.sl .byte) s6 none)),(7,(.dat (.int .i64) s7 none)),(8,(.dat (.int .i64) s8 none))])) from by
  funext t3 s6 s7 s8
  refine Eq.trans ?_ (qsK (qc 0 (E_z94.cutb 0) (kSeq (evCP E_z94 (evLP E_z94 n) (sub C_z94 [1,1,1])) (kFnP E_z94 R_z94))) n t3 s6 s7 s8).symm
  rw [show (fun t3=>(qc 0 (E_z94.cutb 0) (kSeq (evCP E_z94 (evLP E_z94 n) (sub C_z94 [1,1,1])) (kFnP E_z94 R_z94))) (.exit 0) (frOf [(3,(.dat (.sl (.int .i32)) t3 (some (3,21))))]))=(qea n) from by
   funext t3
   exact qmr n t3]
  all_goals kernel_rfl]
 kernel_rfl
theorem qsL:qg G Tryz.prog 94 s_z94:=by
 refine sQ (E:=E_z94) (c:=C_z94) rfl (fun w S hg=>(qb (qoG w S hg) qd)) Tryz.func94 ?_
 intro avs r h
 unfold s_z94 at h
 split at h
 ·obtain ⟨hp,rfl⟩:=Prod.mk.inj h
  obtain ⟨n,hn⟩:=qwD _ hp
  exact ⟨n,_,(qCu n _ _).trans hn,.inl rfl⟩
 ·cases h
def qzI:EnvP:=⟨⟨tiOf tis,fnsOf [],cnsOf [],[],4,(fun _=>none),(fun _=>none),some [0]⟩,fun _=>none,fun _=>none,(fun x=>if x=500002 then [1] else []),fun _=>none,fun _=>none,fun _=>none,fun _=>none⟩
def qzJ:Code:=cO Tryz.f186
def qCv:Array ResultVar:=Tryz.f186.results
theorem qzK (n:Nat)  : evFnP qzI n qzJ qCv []=qvh n  := by
 kernel_rfl
theorem qoH:qg G Tryz.prog 186 s_z186:=by
 refine qN G_stays (E:=qzI) (fn:=Tryz.f186) (c:=qzJ) (qp rfl qdO) (fun w S hg=>⟨⟨qd,fun f sp h=>qbw f sp h w S⟩,qbC w S hg,(fun _ _ h=>by cases h),(fun f sp h=>qck f sp h),(fun f it h=>qcl f it h),(fun t kt vt h=>qbG t kt vt h)⟩) follows Tryz.func186 (by kernel_rfl) (by kernel_rfl) (by kernel_rfl) ?_
 intro avs r h
 unfold s_z186 at h
 split at h <;> cases h
 obtain ⟨n,hn⟩:=quz
 exact ⟨n,_,(qzK n ).trans hn,.inl rfl⟩
def qzL:EnvP:=eQ [(186,s_z186)] 20 (some [2]) nC nC nP
def qzM:Code:=cO Tryz.f140
def qCw:Array ResultVar:=Tryz.f140.results
theorem qzN (n:Nat) (x0:UInt8) (o0:Lab):evFnP qzL n qzM qCw [.dat .byte x0 o0]=qqA n x0:=by
 kernel_rfl
theorem qoI:qg G Tryz.prog 140 s_z140:=by
 refine sQ (E:=qzL) (c:=qzM) rfl (fun w S hg=>(qb (qoH w S hg) qd)) Tryz.func140 ?_
 intro avs r h
 unfold s_z140 at h
 split at h <;> cases h
 obtain ⟨n,hn⟩:=qtr _
 exact ⟨n,_,(qzN n _ _).trans hn,.inl rfl⟩
def E_z95:EnvP:=eQ [(140,s_z140)] 22 (some [2]) (fun x=>if x=3 then some [3,9,10,11] else none) (fun x=>if x=0 then some [3] else if x=1 then some [3,9,10,11] else none) nP
def C_z95:Code:=cO Tryz.f95
def R_z95:Array ResultVar:=Tryz.f95.results
theorem qsM (K:Ex→Fr→Option AV):∀ (n:Nat) (t3:List Int) (s9:List UInt8) (s10:Int) (s11:Int),evLP E_z95 n (sub C_z95 [1,1,0,1,0,0]) K (frOf [(3,(.dat (.sl (.int .i32)) t3 (some (3,21)))),(9,(.dat (.sl .byte) s9 none)),(10,(.dat (.int .i64) s10 none)),(11,(.dat (.int .i64) s11 none))])=qjZ (fun t3=>K (.exit 0) (frOf [(3,(.dat (.sl (.int .i32)) t3 (some (3,21))))])) n t3 s9 s10 s11:=by
 intro n
 induction n with
 | zero=>intros; rfl
 | succ n IH =>
 intro t3 s9 s10 s11
 have ih:(fun t3 s9 s10 s11=>evLP E_z95 n (sub C_z95 [1,1,0,1,0,0]) K (frOf [(3,(.dat (.sl (.int .i32)) t3 (some (3,21)))),(9,(.dat (.sl .byte) s9 none)),(10,(.dat (.int .i64) s10 none)),(11,(.dat (.int .i64) s11 none))]))=qjZ (fun t3=>K (.exit 0) (frOf [(3,(.dat (.sl (.int .i32)) t3 (some (3,21))))])) n:=by
  funext t3 s9 s10 s11
  exact IH t3 s9 s10 s11
 show _=qeb (fun t3=>K (.exit 0) (frOf [(3,(.dat (.sl (.int .i32)) t3 (some (3,21))))])) (qjZ (fun t3=>K (.exit 0) (frOf [(3,(.dat (.sl (.int .i32)) t3 (some (3,21))))])) n) n t3 s9 s10 s11
 rw [← ih]
 kernel_rfl
theorem qms (n:Nat) (t3:List Int):(qc 0 (E_z95.cutb 0) (kSeq (evCP E_z95 (evLP E_z95 n) (sub C_z95 [1,1,1])) (kFnP E_z95 R_z95))) (.exit 0) (frOf [(3,(.dat (.sl (.int .i32)) t3 (some (3,21))))])=qec n t3:=by
 kernel_rfl
theorem qCx (n:Nat) (s0:List UInt8) (o0:Lab):evFnP E_z95 n C_z95 R_z95 [.dat (.sl .byte) s0 o0]=qtR n s0:=by
 unfold qtR
 rw [show qjZ (qec n) n=(fun t3 s9 s10 s11=>evLP E_z95 n (sub C_z95 [1,1,0,1,0,0]) (qc 0 (E_z95.cutb 0) (kSeq (evCP E_z95 (evLP E_z95 n) (sub C_z95 [1,1,1])) (kFnP E_z95 R_z95))) (frOf [(3,(.dat (.sl (.int .i32)) t3 (some (3,21)))),(9,(.dat (.sl .byte) s9 none)),(10,(.dat (.int .i64) s10 none)),(11,(.dat (.int .i64) s11 none))])) from by
  funext t3 s9 s10 s11
  refine Eq.trans ?_ (qsM (qc 0 (E_z95.cutb 0) (kSeq (evCP E_z95 (evLP E_z95 n) (sub C_z95 [1,1,1])) (kFnP E_z95 R_z95))) n t3 s9 s10 s11).symm
  rw [show (fun t3=>(qc 0 (E_z95.cutb 0) (kSeq (evCP E_z95 (evLP E_z95 n) (sub C_z95 [1,1,1])) (kFnP E_z95 R_z95))) (.exit 0) (frOf [(3,(.dat (.sl (.int .i32)) t3 (some (3,21))))]))=(qec n) from by
   funext t3
   exact qms n t3]
  all_goals kernel_rfl]
 kernel_rfl
theorem qsN:qg G Tryz.prog 95 s_z95:=by
 refine sQ (E:=E_z95) (c:=C_z95) rfl (fun w S hg=>(qb (qoI w S hg) qd)) Tryz.func95 ?_
 intro avs r h
 unfold s_z95 at h
 split at h
 ·obtain ⟨hp,rfl⟩:=Prod.mk.inj h
  obtain ⟨n,hn⟩:=qwF _ hp
  exact ⟨n,_,(qCx n _ _).trans hn,.inl rfl⟩
 ·cases h
end
end Go.Av
