import Derived.Test.YtabdohophompiaaGreatDoorPxEvE
import Derived.Test.YtabdohophompiaaGreatDoorPxN
import Derived.Test.YtabdohophompiaaGreatDoorProg
import Derived.KernelRfl
namespace Go.Av
set_option linter.unusedSimpArgs false
noncomputable section
open Go.Proofs
set_option maxRecDepth 100000
set_option linter.unusedVariables false
def qDS:EnvP:=eQ [] 15 (some [2]) nC nC nP
def qDT:Code:=cO Tryz.f136
def qGm:Array ResultVar:=Tryz.f136.results
theorem qDU (n:Nat) (i0:Int) (o0:Lab):evFnP qDS n qDT qGm [de i0 o0]=qhC n i0:=by
 kernel_rfl
theorem qpe:qh Any Tryz.prog 136 s_z136:=by
 refine qO qtR (E:=qDS) (fn:=Tryz.f136) (c:=qDT) (qn rfl qeh) (fun w S hg=>⟨⟨qc,fun f sp h=>qbF f sp h w S⟩,glAny w S hg,(fun _ _ h=>by cases h),(fun f sp h=>qhl f sp h),(fun f it h=>qhm f it h),(fun t kt vt h=>qdb t kt vt h)⟩) follows Tryz.func136 (by kernel_rfl) (by kernel_rfl) (by kernel_rfl) ?_;intro avs r h;unfold s_z136 at h;split at h
 ·obtain ⟨hp,rfl⟩:=yj h;obtain ⟨n,hn⟩:=qwB _ hp;exact ⟨n,_,(qDU n _ _).trans hn,.inl rfl⟩
 ·cases h
def qDV:EnvP:=eQ [(136,s_z136),(137,s_z137),(139,s_z139)] 36 (some [6]) nC nC nP
def qDW:Code:=cO Tryz.f133
def qGn:Array ResultVar:=Tryz.f133.results
theorem qDX (n:Nat) (dst0:List UInt8) (i1:Int) (o1:Lab) (base2:Int) (o2:Lab):evFnC qDV.toEnv n qDW qGn [db dst0 (some (0,5)),.dat (.int .u64) i1 o1,de base2 o2]=qtA n dst0 i1 base2:=by
 kernel_rfl
theorem qrM:qjg Tryz.prog 133 s_z133:=by
 refine qcK (E:=qDV.toEnv) (fn:=Tryz.f133) (c:=qDW) (qn rfl qeh) (fun w S=>⟨(qb (qpe w S trivial) (qb (qoN w S trivial) (qb (qoO w S trivial) qc))),fun f sp h=>qbF f sp h w S⟩) follows Tryz.func133 (by kernel_rfl) (by kernel_rfl) (by kernel_rfl) ?_;intro avs r h;unfold s_z133 at h;split at h
 ·obtain ⟨hp,rfl⟩:=yj h;obtain ⟨n,hn⟩:=qwC _ _ _ hp;exact ⟨n,(qDX n _ _ _ _ _).trans hn⟩
 ·cases h
def qDY:EnvP:=⟨⟨tiOf tis,fnsOf [],cnsOf [(133,s_z133)],[],21,(fun _=>none),(fun _=>none),some [6]⟩,fun _=>none,fun _=>none,fun _=>[],fun _=>none,fun _=>none,fun _=>none,fun _=>none⟩
def qDZ:Code:=cO Tryz.f123
def qGo:Array ResultVar:=Tryz.f123.results
theorem qEa (n:Nat) (dst0:List UInt8) (i1:Int) (o1:Lab) (base2:Int) (o2:Lab):evFnC qDY.toEnv n qDZ qGo [db dst0 (some (0,5)),de i1 o1,de base2 o2]=qtB n dst0 i1 base2:=by
 kernel_rfl
theorem qrN:qjg Tryz.prog 123 s_z123:=by
 refine qcK (E:=qDY.toEnv) (fn:=Tryz.f123) (c:=qDZ) (qn rfl qeh) (fun w S=>⟨qc,fun f sp h=>(qkM qrM qbF) f sp h w S⟩) follows Tryz.func123 (by kernel_rfl) (by kernel_rfl) (by kernel_rfl) ?_;intro avs r h;unfold s_z123 at h;split at h
 ·obtain ⟨hp,rfl⟩:=yj h;obtain ⟨n,hn⟩:=qwD _ _ _ hp;exact ⟨n,(qEa n _ _ _ _ _).trans hn⟩
 ·cases h
def E_z95:EnvP:=⟨⟨tiOf tis,fnsOf [],cnsOf [(123,s_z123)],[],11,(fun _=>none),(fun _=>none),some [6]⟩,fun _=>none,fun _=>none,fun _=>[],fun _=>none,fun _=>none,fun _=>none,fun _=>none⟩
def C_z95:Code:=cO Tryz.f95
def R_z95:Array ResultVar:=Tryz.f95.results
theorem qGp (n:Nat) (dst0:List UInt8) (i1:Int) (o1:Lab) (base2:Int) (o2:Lab):evFnC E_z95.toEnv n C_z95 R_z95 [db dst0 (some (0,5)),de i1 o1,de base2 o2]=qBb n dst0 i1 base2:=by
 kernel_rfl
theorem qvN:qjg Tryz.prog 95 s_z95:=by
 refine qcK (E:=E_z95.toEnv) (fn:=Tryz.f95) (c:=C_z95) (qn rfl qeh) (fun w S=>⟨qc,fun f sp h=>(qkM qrN qbF) f sp h w S⟩) follows Tryz.func95 (by kernel_rfl) (by kernel_rfl) (by kernel_rfl) ?_;intro avs r h;unfold s_z95 at h;split at h
 ·obtain ⟨hp,rfl⟩:=yj h;obtain ⟨n,hn⟩:=qzO _ _ _ hp;exact ⟨n,(qGp n _ _ _ _ _).trans hn⟩
 ·cases h
def E_z55:EnvP:=⟨⟨tiOf tis,fnsOf [(53,s_z53)],cnsOf [(95,s_z95)],[],22,(fun _=>none),(fun _=>none),some [2]⟩,fun _=>none,fun _=>none,fun _=>[],fun _=>none,fun _=>none,fun _=>none,fun _=>none⟩
def C_z55:Code:=cO Tryz.f55
def R_z55:Array ResultVar:=Tryz.f55.results
theorem qGq (n:Nat) (p0:(List UInt8)×(Int×(Bool×((List UInt8)×Unit)))) (o0:Lab):evFnP E_z55 n C_z55 R_z55 [.dat (.pair (.sl .byte) (.pair (.int .i64) (.pair .bool (.pair (.sl .byte) .unit)))) p0 o0]=qBc n p0:=by
 kernel_rfl
theorem qvO:qh G Tryz.prog 55 s_z55:=by
 refine qO G_stays (E:=E_z55) (fn:=Tryz.f55) (c:=C_z55) (qn rfl qeh) (fun w S hg=>⟨⟨(qb (qdA w S hg) qc),fun f sp h=>(qkM qvN qbF) f sp h w S⟩,qfh w S hg,(fun _ _ h=>by cases h),(fun f sp h=>qhl f sp h),(fun f it h=>qhm f it h),(fun t kt vt h=>qdb t kt vt h)⟩) follows Tryz.func55 (by kernel_rfl) (by kernel_rfl) (by kernel_rfl) ?_;intro avs r h;unfold s_z55 at h;split at h
 ·obtain ⟨hp,rfl⟩:=yj h;obtain ⟨n,hn⟩:=qzX _ hp;exact ⟨n,_,(qGq n _ _).trans hn,.inl rfl⟩
 ·cases h
def E_z96:EnvP:=eQ [] 19 (some [2]) nC (fun x=>if x=0 then some [] else none) nP
def C_z96:Code:=cO Tryz.f96
def R_z96:Array ResultVar:=Tryz.f96.results
theorem qGr (n:Nat) (charset0:Int) (o0:Lab):evFnP E_z96 n C_z96 R_z96 [de charset0 o0]=qBd n charset0:=by
 kernel_rfl
theorem qvP:qh G Tryz.prog 96 s_z96:=by
 refine sQ (E:=E_z96) (c:=C_z96) rfl (fun w S hg=>qc) Tryz.func96 ?_;intro avs r h;unfold s_z96 at h;split at h <;> cases h
 obtain ⟨n,hn⟩:=qBw _;exact ⟨n,_,(qGr n _ _).trans hn,.inl rfl⟩
def E_z56:EnvP:=eQ [(96,s_z96)] 12 (some [2]) nC nC nP
def C_z56:Code:=cO Tryz.f56
def R_z56:Array ResultVar:=Tryz.f56.results
theorem qGs (n:Nat) (charset0:Int) (o0:Lab):evFnP E_z56 n C_z56 R_z56 [de charset0 o0]=qBe n charset0:=by
 kernel_rfl
theorem qvQ:qh G Tryz.prog 56 s_z56:=by
 refine sQ (E:=E_z56) (c:=C_z56) rfl (fun w S hg=>(qb (qvP w S hg) qc)) Tryz.func56 ?_;intro avs r h;unfold s_z56 at h;split at h <;> cases h
 obtain ⟨n,hn⟩:=qBx _;exact ⟨n,_,(qGs n _ _).trans hn,.inl rfl⟩
def E_z29:EnvP:=eQ [(55,s_z55),(56,s_z56)] 22 (some [6]) nC nC nP
def C_z29:Code:=cO Tryz.f29
def R_z29:Array ResultVar:=Tryz.f29.results
theorem qGt (n:Nat) (name0:List UInt8) (o0:Lab) (n1:Int) (o1:Lab) (charset2:Int) (o2:Lab):evFnP E_z29 n C_z29 R_z29 [db name0 o0,de n1 o1,de charset2 o2]=qBf n name0 n1 charset2:=by
 kernel_rfl
theorem qiz:qh G Tryz.prog 29 s_z29:=by
 refine sQ (E:=E_z29) (c:=C_z29) rfl (fun w S hg=>(qb (qvO w S hg) (qb (qvQ w S hg) qc))) Tryz.func29 ?_;intro avs r h;unfold s_z29 at h;split at h
 ·obtain ⟨hp,rfl⟩:=yj h;obtain ⟨n,hn⟩:=qzY _ _ _ hp;exact ⟨n,_,(qGt n _ _ _ _ _ _).trans hn,.inl rfl⟩
 ·cases h
def E_z58:EnvP:=eQ [(29,s_z29)] 29 (some [30,31,32,33,34]) nC nC (fun x=>if x=19 then some (.psl 22 (.osl 5 .byte)) else if x=20 then some (.psl 22 (.osl 5 .byte)) else if x=28 then some (.osl 5 .byte) else none)
def C_z58:Code:=cO Tryz.f58
def R_z58:Array ResultVar:=Tryz.f58.results
theorem qGu (n:Nat) (u0:List UInt8) (o0:Lab) (x1:Bool) (x2:List UInt8) (x3:List (List UInt8)) (x4:List UInt8) (x5:Int):evFnM E_z58 n C_z58 R_z58 [db u0 o0,.pbox (.leaf .bool) x1 none,.pbox (.osl 5 .byte) x2 none,.pbox (.psl 22 (.osl 5 .byte)) x3 none,.pbox (.leaf (.sl .byte)) x4 none,.pbox (.leaf (.int .i64)) x5 none]=qBg n u0 x1 x2 x3 x4 x5:=by
 kernel_rfl
theorem qvR:qCq G Tryz.prog 58 s_z58:=by
 refine qkU G_stays (E:=E_z58) (fn:=Tryz.f58) (c:=C_z58) (qn rfl qeh) (fun w S hg=>⟨⟨(qb (qiz w S hg) qc),fun f sp h=>qbF f sp h w S⟩,qfh w S hg,(fun _ _ h=>by cases h),(fun f sp h=>qhl f sp h),(fun f it h=>qhm f it h),(fun t kt vt h=>qdb t kt vt h)⟩) follows Tryz.func58 (by kernel_rfl) (by kernel_rfl) (by kernel_rfl) ?_;intro avs r h;unfold s_z58 at h;split at h
 ·obtain ⟨hp,rfl⟩:=yj h;obtain ⟨n,hn⟩:=qAm _ _ _ _ _ _ hp;exact ⟨n,(qGu n _ _ _ _ _ _ _).trans hn⟩
 ·cases h
def E_z31:EnvP:=⟨⟨tiOf tis,fnsOf [(29,s_z29)],cnsOf [],[],31,(fun x=>if x=6 then some [3,4,7,8,9,10,17,18,19] else if x=3999998 then some [8] else none),(fun x=>if x=0 then some [7,8] else if x=1 then some [3,4,7,8,9,10,17,18,19] else none),some [6]⟩,(fun x=>if x=3 then some (.leaf (.sl .byte)) else if x=4 then some (.leaf (.int .i64)) else if x=7 then some (.psl 22 (.osl 5 .byte)) else if x=8 then some (.osl 5 .byte) else if x=9 then some (.leaf .bool) else if x=29 then some (.psl 22 (.osl 5 .byte)) else if x=30 then some (.psl 22 (.osl 5 .byte)) else none),fun _=>none,fun _=>[],(fun x=>if x=58 then some s_z58 else none),fun _=>none,fun _=>none,fun _=>none⟩
def C_z31:Code:=cO Tryz.f31
def R_z31:Array ResultVar:=Tryz.f31.results
noncomputable def X_z58 (K:Ex→Fr→Option AV):=fun out7 now8=>K (.exit 0) (frOf [(7,(.pbox (.psl 22 (.osl 5 .byte)) out7 none)),(8,(.pbox (.osl 5 .byte) now8 none))])
def qnp (n:Nat):Ex→Fr→Option AV:=qz 0 (E_z31.cutb 0) (kSeq (evCP E_z31 (evLP E_z31 n) (sub C_z31 [1,1,1,1,1,1])) (kFnP E_z31 R_z31))
def qrO (name3:List UInt8) (charset4:Int) (out7:List (List UInt8)) (now8:List UInt8) (empty9:Bool) (s17:List (List UInt8)) (s18:Int) (s19:Int):Fr:=frOf [(3,(.pbox (.leaf (.sl .byte)) name3 none)),(4,(.pbox (.leaf (.int .i64)) charset4 none)),(7,(.pbox (.psl 22 (.osl 5 .byte)) out7 none)),(8,(.pbox (.osl 5 .byte) now8 none)),(9,(.pbox (.leaf .bool) empty9 none)),(10,(.clom 58 [9,8,7,3,4])),(17,(.dat (.sl (.sl .byte)) s17 none)),(18,dc s18),(19,dc s19)]
theorem qvS (K:Ex→Fr→Option AV):∀ (n:Nat) (name3:List UInt8) (charset4:Int) (out7:List (List UInt8)) (now8:List UInt8) (empty9:Bool) (s17:List (List UInt8)) (s18:Int) (s19:Int),evLP E_z31 n (sub C_z31 [1,1,1,1,1,0,1,0,0]) K (qrO name3 charset4 out7 now8 empty9 s17 s18 s19)=qlP (X_z58 K) n name3 charset4 out7 now8 empty9 s17 s18 s19:=by
 intro n;induction n with
 | zero=>intros; rfl
 | succ n IH =>
 intro name3 charset4 out7 now8 empty9 s17 s18 s19;have ih:(fun name3 charset4 out7 now8 empty9 s17 s18 s19=>evLP E_z31 n (sub C_z31 [1,1,1,1,1,0,1,0,0]) K (qrO name3 charset4 out7 now8 empty9 s17 s18 s19))=qlP (X_z58 K) n:=by
  funext name3 charset4 out7 now8 empty9 s17 s18 s19;exact IH name3 charset4 out7 now8 empty9 s17 s18 s19
 show _=qeJ (X_z58 K) (qlP (X_z58 K) n) n name3 charset4 out7 now8 empty9 s17 s18 s19;rw [← ih];kernel_rfl
theorem qpf (n:Nat) (out7:List (List UInt8)) (now8:List UInt8):(qnp n) (.exit 0) (frOf [(7,(.pbox (.psl 22 (.osl 5 .byte)) out7 none)),(8,(.pbox (.osl 5 .byte) now8 none))])=qeK n out7 now8:=by
 kernel_rfl
theorem qGv (n:Nat) (name0:List UInt8) (o0:Lab) (charset1:Int) (o1:Lab) (l2:List (List UInt8)) (o2:Lab):evFnP E_z31 n C_z31 R_z31 [db name0 o0,de charset1 o1,.dat (.sl (.sl .byte)) l2 o2]=qxa n name0 charset1 l2:=by
 unfold qxa;rw [show qlP (qeK n) n=(fun name3 charset4 out7 now8 empty9 s17 s18 s19=>evLP E_z31 n (sub C_z31 [1,1,1,1,1,0,1,0,0]) (qnp n) (qrO name3 charset4 out7 now8 empty9 s17 s18 s19)) from by
  funext name3 charset4 out7 now8 empty9 s17 s18 s19;refine Eq.trans ?_ (qvS (qnp n) n name3 charset4 out7 now8 empty9 s17 s18 s19).symm;rw [show (X_z58 (qnp n))=(qeK n) from by
   funext out7 now8;exact qpf n out7 now8]
  all_goals kernel_rfl]
 kernel_rfl
theorem qvT:qh G Tryz.prog 31 s_z31:=by
 refine qO G_stays (E:=E_z31) (fn:=Tryz.f31) (c:=C_z31) (qn rfl qeh) (fun w S hg=>⟨⟨(qb (qiz w S hg) qc),fun f sp h=>qbF f sp h w S⟩,qfh w S hg,(fun f sp h=>(qyK (qvR w S hg) qBT) f sp h),(fun f sp h=>qhl f sp h),(fun f it h=>qhm f it h),(fun t kt vt h=>qdb t kt vt h)⟩) follows Tryz.func31 (by kernel_rfl) (by kernel_rfl) (by kernel_rfl) ?_;intro avs r h;unfold s_z31 at h;split at h
 ·obtain ⟨hp,rfl⟩:=yj h;obtain ⟨n,hn⟩:=qAn _ _ _ hp;exact ⟨n,_,(qGv n _ _ _ _ _ _).trans hn,.inl rfl⟩
 ·cases h
def E_z13:EnvP:=eQ [(22,s_z22),(23,s_z23),(27,s_z27),(28,s_z28),(29,s_z29),(30,s_z30),(31,s_z31)] 54 (some [1000004,5]) nC nC nP
def C_z13:Code:=cO Tryz.f13
def R_z13:Array ResultVar:=Tryz.f13.results
theorem qGw (n:Nat) (name0:List UInt8) (o0:Lab) (t1:List Int) (o1:Lab):evFnP E_z13 n C_z13 R_z13 [db name0 o0,.dat (.sl (.int .i32)) t1 o1]=qBh n name0 t1:=by
 kernel_rfl
theorem qiA:qh G Tryz.prog 13 s_z13:=by
 refine sQ (E:=E_z13) (c:=C_z13) rfl (fun w S hg=>(qb (qvj w S hg) (qb (qvC w S hg) (qb (qnm w S hg) (qb (qno w S hg) (qb (qiz w S hg) (qb (qvc w S hg) (qb (qvT w S hg) qc)))))))) Tryz.func13 ?_;intro avs r h;unfold s_z13 at h;split at h
 ·obtain ⟨hp,rfl⟩:=yj h;obtain ⟨n,hn⟩:=qAo _ _ hp;exact ⟨n,_,(qGw n _ _ _ _).trans hn,.inl rfl⟩
 ·cases h
def E_z7:EnvP:=eQ [(13,s_z13)] 30 (some [4,5]) (fun x=>if x=4 then some [7,8,17,18,19] else none) (fun x=>if x=0 then some [7,8] else if x=1 then some [7,8,17,18,19] else none) nP
def C_z7:Code:=cO Tryz.f7
def R_z7:Array ResultVar:=Tryz.f7.results
noncomputable def qrP (K:Ex→Fr→Option AV):=fun e7 out8=>K (.exit 0) (frOf [(7,dc e7),(8,(db out8 (some (8,5))))])
def qvU (n:Nat):Ex→Fr→Option AV:=qz 0 (E_z7.cutb 0) (kSeq (evCP E_z7 (evLP E_z7 n) (sub C_z7 [1,1,1,1])) (kFnP E_z7 R_z7))
def qzB (e7:Int) (out8:List UInt8) (s17:List (List UInt8)) (s18:Int) (s19:Int):Fr:=frOf [(7,dc e7),(8,(db out8 (some (8,5)))),(17,(.dat (.sl (.sl .byte)) s17 none)),(18,dc s18),(19,dc s19)]
theorem qzC (K:Ex→Fr→Option AV):∀ (n:Nat) (e7:Int) (out8:List UInt8) (s17:List (List UInt8)) (s18:Int) (s19:Int),evLP E_z7 n (sub C_z7 [1,1,1,0,1,0,0]) K (qzB e7 out8 s17 s18 s19)=z7_l4 (qrP K) n e7 out8 s17 s18 s19:=by
 intro n;induction n with
 | zero=>intros; rfl
 | succ n IH =>
 intro e7 out8 s17 s18 s19;have ih:(fun e7 out8 s17 s18 s19=>evLP E_z7 n (sub C_z7 [1,1,1,0,1,0,0]) K (qzB e7 out8 s17 s18 s19))=z7_l4 (qrP K) n:=by
  funext e7 out8 s17 s18 s19;exact IH e7 out8 s17 s18 s19
 show _=qhE (qrP K) (z7_l4 (qrP K) n) n e7 out8 s17 s18 s19;rw [← ih];kernel_rfl
theorem qrQ (n:Nat) (e7:Int) (out8:List UInt8):(qvU n) (.exit 0) (frOf [(7,dc e7),(8,(db out8 (some (8,5))))])=qhF n e7 out8:=by
 kernel_rfl
theorem z7_ev (n:Nat) (name0:List UInt8) (o0:Lab) (t1:List Int) (o1:Lab):evFnP E_z7 n C_z7 R_z7 [db name0 o0,.dat (.sl (.int .i32)) t1 o1]=z7_sh n name0 t1:=by
 unfold z7_sh;rw [show z7_l4 (qhF n) n=(fun e7 out8 s17 s18 s19=>evLP E_z7 n (sub C_z7 [1,1,1,0,1,0,0]) (qvU n) (qzB e7 out8 s17 s18 s19)) from by
  funext e7 out8 s17 s18 s19;refine Eq.trans ?_ (qzC (qvU n) n e7 out8 s17 s18 s19).symm;rw [show (qrP (qvU n))=(qhF n) from by
   funext e7 out8;exact qrQ n e7 out8]
  all_goals kernel_rfl]
 kernel_rfl
theorem qrR:qh G Tryz.prog 7 s_z7:=by
 refine sQ (E:=E_z7) (c:=C_z7) rfl (fun w S hg=>(qb (qiA w S hg) qc)) Tryz.func7 ?_;intro avs r h;unfold s_z7 at h;split at h
 ·obtain ⟨hp,rfl⟩:=yj h;obtain ⟨n,hn⟩:=qEB _ _ hp;exact ⟨n,_,(z7_ev n _ _ _ _).trans hn,.inl rfl⟩
 ·cases h
def E_z6:EnvP:=eQ [(7,s_z7),(13,s_z13)] 54 (some [0]) nC nC nP
def C_z6:Code:=cO Tryz.f6
def R_z6:Array ResultVar:=Tryz.f6.results
theorem z6_ev (n:Nat)  : evFnP E_z6 n C_z6 R_z6 []=z6_sh n  := by
 kernel_rfl
theorem qzD:qh G Tryz.prog 6 s_z6:=by
 refine sQ (E:=E_z6) (c:=C_z6) rfl (fun w S hg=>(qb (qrR w S hg) (qb (qiA w S hg) qc))) Tryz.func6 ?_;intro avs r h;unfold s_z6 at h;split at h <;> cases h
 obtain ⟨n,hn⟩:=qEC;exact ⟨n,_,(z6_ev n ).trans hn,.inl rfl⟩
def E_z11:EnvP:=eQ [] 26 (some [4]) (fun x=>if x=4 then some [0,1,5] else none) (fun x=>if x=0 then some [] else if x=1 then some [0,1,5] else none) nP
def C_z11:Code:=cO Tryz.f11
def R_z11:Array ResultVar:=Tryz.f11.results
noncomputable def qnq (K:Ex→Fr→Option AV):=fun s4=>K .ret (frOf [(4,dg s4)])
def qnr (n:Nat):Ex→Fr→Option AV:=qz 0 (E_z11.cutb 0) (kSeq (evCP E_z11 (evLP E_z11 n) (sub C_z11 [1,1,1])) (kFnP E_z11 R_z11))
def qrS (a0:List UInt8) (b1:List UInt8) (i5:Int):Fr:=frOf [(0,da a0),(1,da b1),(5,dc i5)]
theorem qvV (K:Ex→Fr→Option AV):∀ (n:Nat) (a0:List UInt8) (b1:List UInt8) (i5:Int),evLP E_z11 n (sub C_z11 [1,1,0,1,0,0]) K (qrS a0 b1 i5)=qja (qnq K) (K (.exit 0) (frOf [])) n a0 b1 i5:=by
 intro n;induction n with
 | zero=>intros; rfl
 | succ n IH =>
 intro a0 b1 i5;have ih:(fun a0 b1 i5=>evLP E_z11 n (sub C_z11 [1,1,0,1,0,0]) K (qrS a0 b1 i5))=qja (qnq K) (K (.exit 0) (frOf [])) n:=by
  funext a0 b1 i5;exact IH a0 b1 i5
 show _=qeL (qnq K) (K (.exit 0) (frOf [])) (qja (qnq K) (K (.exit 0) (frOf [])) n) n a0 b1 i5;rw [← ih];kernel_rfl
theorem qpg (n:Nat)  : (qnr n) (.exit 0) (frOf [])=qjb n  := by
 kernel_rfl
theorem qGx (n:Nat) (a0:List UInt8) (o0:Lab) (b1:List UInt8) (o1:Lab):evFnP E_z11 n C_z11 R_z11 [db a0 o0,db b1 o1]=qxb n a0 b1:=by
 unfold qxb;rw [show qja qhG (qjb n) n=(fun a0 b1 i5=>evLP E_z11 n (sub C_z11 [1,1,0,1,0,0]) (qnr n) (qrS a0 b1 i5)) from by
  funext a0 b1 i5;refine Eq.trans ?_ (qvV (qnr n) n a0 b1 i5).symm;rw [show ((qnr n) (.exit 0) (frOf []))=(qjb n) from by
   exact qpg n ]
  all_goals kernel_rfl]
 kernel_rfl
theorem qvW:qh G Tryz.prog 11 s_z11:=by
 refine sQ (E:=E_z11) (c:=C_z11) rfl (fun w S hg=>qc) Tryz.func11 ?_;intro avs r h;unfold s_z11 at h;split at h
 ·obtain ⟨hp,rfl⟩:=yj h;obtain ⟨n,hn⟩:=qBr _ _ hp;exact ⟨n,_,(qGx n _ _ _ _).trans hn,.inl rfl⟩
 ·cases h
end
end Go.Av
